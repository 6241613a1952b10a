/- Lemmas and contracts, one text behind the other: what the row of this claim needs; no conditions beyond those that each theorem names. -/
import Derived.Test.YtfgfnflhdabmcaaVE2
set_option linter.unusedVariables false
set_option linter.unusedSimpArgs false
set_option maxRecDepth 100000
section
namespace Go.Proofs.Ytfgfnflhdabmcaa.CfaB
open Go.RowKit Go.Proofs.Ytfgfnflhdabmcaa.G Go.Proofs.YtfgfnflhdabmcaaW.PrintWords Go.Proofs.YtfgfnflhdabmcaaW.PrintLast Go.Proofs.YtfgfnflhdabmcaaW.PrintMore Go.Proofs.Ytfgfnflhdabmcaa.Bit Go.Proofs.Ytfgfnflhdabmcaa.Leb Go.Proofs.Ytfgfnflhdabmcaa.Cfa
def StopB (p : Prop) : Prop := p
theorem stopB {p : Prop} (h : StopB p) : p := h
theorem Own.below {w w' : World} {b : Nat} {v : Value} {l : List Int} (h : Own w b v l) (hb : Below w.heap.size w w') : Own w' b v l := Kd.R_below h hb
theorem own_ne {w w' : World} {b : Nat} {v u : Value} {a l : List Int} (h : Own w b v a) (hu : Own w' w.heap.size u l) : (v.ownBlock = none ∨ v.ownBlock ≠ u.ownBlock) ∧ (u.ownBlock = none ∨ u.ownBlock ≠ v.ownBlock) := by
 have key : ∀ k, v.ownBlock = some k → u.ownBlock = some k → False := fun k h1 h2 => by
   have := Kd.R_lt h k h1
   have := Kd.R_base hu k h2
   omega
 cases hv : v.ownBlock with
 | none => exact ⟨.inl rfl, by cases hu2 : u.ownBlock with | none => exact .inl rfl | some k => exact .inr (by simp)⟩
 | some k =>
  refine ⟨.inr fun e => key k hv e.symm, ?_⟩
  cases hu2 : u.ownBlock with
  | none => exact .inl rfl
  | some j => exact .inr fun e => key k hv (hu2.trans e)
theorem mayB_k {k r n : Int} (h : mayF k r n = true) : k = 0 ∨ k = 1 ∨ k = 2 ∨ k = 3 ∨ k = 4 ∨ k = 5 ∨ k = 6 ∨ k = 7 ∨ k = 8 ∨ k = 9 ∨ k = 10 := by
 unfold mayF at h
 split at h
 ·
  omega
 split at h
 ·
  omega
 split at h
 ·
  omega
 split at h
 ·
  omega
 split at h
 ·
  omega
 cases h
set_option maxHeartbeats 4000000 in
theorem bytes_calls (k r n : Int) (hm : mayF k r n = true) (w : World) : Calls Try.prog 59 #[.agg #[.int .i64 k, .int .i64 r, .int .i64 n]] w fun e w' => ∃ v, e = .returned v ∧ Own w' w.heap.size v (opB k r n) ∧ Below w.heap.size w w' := by
 have hur := U_le r
 have hun := U_le n
 go_enter Try.func59, Try.ntmps59
 go_upto_region 1 with fail
 have hb0 := blk_new w (.cells #[.int .i64 k, .int .i64 r, .int .i64 n] 105)
 have hB0 := below_alloc (Below.refl w.heap.size w) (.cells #[.int .i64 k, .int .i64 r, .int .i64 n] 105)
 obtain ⟨w0, hw0⟩ : ∃ w0, w0 = w.alloc (.cells #[.int .i64 k, .int .i64 r, .int .i64 n] 105) := ⟨_, rfl⟩
 rw [← hw0] at hb0 hB0 ⊢
 clear hw0
 have HB0 := am hB0
 have HG := am hb0
 have HM := am hm
 have hk := mayB_k hm
 have y0 : w0.cell? ⟨w.heap.size, 0, none⟩ = some (.int .i64 k) := (blk_cell hb0 0).trans rfl
 have y1 : w0.cell? ⟨w.heap.size, 1, none⟩ = some (.int .i64 r) := (blk_cell hb0 1).trans rfl
 have y2 : w0.cell? ⟨w.heap.size, 2, none⟩ = some (.int .i64 n) := (blk_cell hb0 2).trans rfl
 clear hb0 hB0 hm
 rcases hk with rfl | rfl | rfl | rfl | rfl | rfl | rfl | rfl | rfl | rfl | rfl
 ·
  skip
  go_wp2_with ((with_reducible refine gate_dst (N := 136) rfl ?_); refine stopB ?stop)
  case stop =>
   unfold StopB
   refine Kd.R_lit (Kd.int .u8) _ 5 ?hg (N := 136) ?hd (xs := ([0] : List Int)) (inner := [.int .u8 (0)]) (ok := fun _ => True) (okp := fun _ => True) ?hr (Reps.one (show Kd.M (Kd.int .u8) _ _ _ (0) [.int .u8 (0)] from rfl) (Reps.none _ _)) (fun _ hk => hk) trivial (Below.refl _ _) (Nat.le_refl _) (by simp) ?_
   case hd => rfl
   case hg => rfl
   case hr => first | (go_simp; done) | (go_simp; rfl)
   intro v3 w3 hR3 hB3 _ _
   go_wp2
   go_ret
   exact ⟨_, rfl, Kd.R_lower (by rw [show opB 0 r n = [0] from rfl]; exact hR3) HB0.out.size, below_then HB0.out HB0.out.size hB3⟩
 ·
  obtain ⟨h0, h1⟩ := may1 HM.out
  by_cases e0 : n < 64
  ·
   have d0 : decide (n < 64) = true := decide_eq_true e0
   go_wp2_with ((with_reducible refine gate_dst (N := 15) rfl ?_); refine stopB ?stop)
   case stop =>
    unfold StopB
    refine Kd.R_lit (Kd.int .u8) _ 5 ?hg (N := 15) ?hd (xs := ([64 + n] : List Int)) (inner := [.int .u8 (64 + n)]) (ok := fun _ => True) (okp := fun _ => True) ?hr (Reps.one (show Kd.M (Kd.int .u8) _ _ _ (64 + n) [.int .u8 (64 + n)] from rfl) (Reps.none _ _)) (fun _ hk => hk) trivial (Below.refl _ _) (Nat.le_refl _) (by simp) ?_
    case hd => rfl
    case hg => rfl
    case hr => first | (go_simp; done) | (go_simp; rfl)
    intro v3 w3 hR3 hB3 _ _
    go_wp2
    go_ret
    exact ⟨_, rfl, Kd.R_lower (by rw [show opB 1 r n = [(64 + n) % 256] from if_pos (show n < 64 by omega), show (64 + n) % 256 = 64 + n by omega]; exact hR3) HB0.out.size, below_then HB0.out HB0.out.size hB3⟩
  have d0 : decide (n < 64) = false := decide_eq_false e0
  by_cases e1 : n < 256
  ·
   have d1 : decide (n < 256) = true := decide_eq_true e1
   go_wp2_with ((with_reducible refine gate_dst (N := 23) rfl ?_); refine stopB ?stop)
   case stop =>
    unfold StopB
    refine Kd.R_lit (Kd.int .u8) _ 5 ?hg (N := 23) ?hd (xs := ([2, n] : List Int)) (inner := [.int .u8 (2), .int .u8 (n)]) (ok := fun _ => True) (okp := fun _ => True) ?hr (Reps.one (show Kd.M (Kd.int .u8) _ _ _ (2) [.int .u8 (2)] from rfl) (Reps.one (show Kd.M (Kd.int .u8) _ _ _ (n) [.int .u8 (n)] from rfl) (Reps.none _ _))) (fun _ hk => hk) trivial (Below.refl _ _) (Nat.le_refl _) (by simp) ?_
    case hd => rfl
    case hg => rfl
    case hr => first | (go_simp; done) | (go_simp; rfl)
    intro v3 w3 hR3 hB3 _ _
    go_wp2
    go_ret
    exact ⟨_, rfl, Kd.R_lower (by rw [show opB 1 r n = [2, n % 256] from (if_neg (show ¬ n < 64 by omega)).trans (if_pos (show n < 256 by omega)), show n % 256 = n by omega]; exact hR3) HB0.out.size, below_then HB0.out HB0.out.size hB3⟩
  have d1 : decide (n < 256) = false := decide_eq_false e1
  by_cases e2 : n < 65536
  ·
   have d2 : decide (n < 65536) = true := decide_eq_true e2
   go_wp2_with ((with_reducible refine gate_dst (N := 35) rfl ?_); refine stopB ?stop)
   case stop =>
    unfold StopB
    refine Kd.R_lit (Kd.int .u8) _ 5 ?hg (N := 35) ?hd (xs := ([3, n % 256, n / 256] : List Int)) (inner := [.int .u8 (3), .int .u8 (n % 256), .int .u8 (n / 256)]) (ok := fun _ => True) (okp := fun _ => True) ?hr (Reps.one (show Kd.M (Kd.int .u8) _ _ _ (3) [.int .u8 (3)] from rfl) (Reps.one (show Kd.M (Kd.int .u8) _ _ _ (n % 256) [.int .u8 (n % 256)] from rfl) (Reps.one (show Kd.M (Kd.int .u8) _ _ _ (n / 256) [.int .u8 (n / 256)] from rfl) (Reps.none _ _)))) (fun _ hk => hk) trivial (Below.refl _ _) (Nat.le_refl _) (by simp) ?_
    case hd => rfl
    case hg => rfl
    case hr => first | (go_simp; done) | (go_simp; rfl)
    intro v3 w3 hR3 hB3 _ _
    go_wp2
    go_ret
    exact ⟨_, rfl, Kd.R_lower (by rw [show opB 1 r n = [3, n % 256, n / 256 % 256] from (if_neg (show ¬ n < 64 by omega)).trans ((if_neg (show ¬ n < 256 by omega)).trans (if_pos (show n < 65536 by omega))), show n / 256 % 256 = n / 256 by omega]; exact hR3) HB0.out.size, below_then HB0.out HB0.out.size hB3⟩
  have d2 : decide (n < 65536) = false := decide_eq_false e2
  go_wp2_with ((with_reducible refine gate_dst (N := 51) rfl ?_); refine stopB ?stop)
  case stop =>
   unfold StopB
   refine Kd.R_lit (Kd.int .u8) _ 5 ?hg (N := 51) ?hd (xs := ([4, n % 256, n / 256 % 256, n / 65536 % 256, n / 16777216] : List Int)) (inner := [.int .u8 (4), .int .u8 (n % 256), .int .u8 (n / 256 % 256), .int .u8 (n / 65536 % 256), .int .u8 (n / 16777216)]) (ok := fun _ => True) (okp := fun _ => True) ?hr (Reps.one (show Kd.M (Kd.int .u8) _ _ _ (4) [.int .u8 (4)] from rfl) (Reps.one (show Kd.M (Kd.int .u8) _ _ _ (n % 256) [.int .u8 (n % 256)] from rfl) (Reps.one (show Kd.M (Kd.int .u8) _ _ _ (n / 256 % 256) [.int .u8 (n / 256 % 256)] from rfl) (Reps.one (show Kd.M (Kd.int .u8) _ _ _ (n / 65536 % 256) [.int .u8 (n / 65536 % 256)] from rfl) (Reps.one (show Kd.M (Kd.int .u8) _ _ _ (n / 16777216) [.int .u8 (n / 16777216)] from rfl) (Reps.none _ _)))))) (fun _ hk => hk) trivial (Below.refl _ _) (Nat.le_refl _) (by simp) ?_
   case hd => rfl
   case hg => rfl
   case hr => first | (go_simp; done) | (go_simp; rfl)
   intro v3 w3 hR3 hB3 _ _
   go_wp2
   go_ret
   exact ⟨_, rfl, Kd.R_lower (by rw [show opB 1 r n = [4, n % 256, n / 256 % 256, n / 65536 % 256, n / 16777216 % 256] from (if_neg (show ¬ n < 64 by omega)).trans ((if_neg (show ¬ n < 256 by omega)).trans (if_neg (show ¬ n < 65536 by omega))), show n / 16777216 % 256 = n / 16777216 by omega]; exact hR3) HB0.out.size, below_then HB0.out HB0.out.size hB3⟩
 ·
  skip
  have HSS : Aside0 (∀ u, Below w0.heap.size w0 u → u.cell? ⟨w.heap.size, 1, none⟩ = some (.int .i64 r) ∧ u.cell? ⟨w.heap.size, 2, none⟩ = some (.int .i64 n)) := ⟨fun u hu => ⟨(blk_cell (blk_below HG.out hu) 1).trans rfl, (blk_cell (blk_below HG.out hu) 2).trans rfl⟩⟩
  have HBp : Aside0 (Below w0.heap.size w0 w0.drew) := ⟨below_drew (Below.refl _ _)⟩
  go_upto_region 11 with fail
  clear y0
  refine start_ (n := 10) (S := fun u => u.cell? ⟨w.heap.size, 1, none⟩ = some (.int .i64 r) ∧ u.cell? ⟨w.heap.size, 2, none⟩ = some (.int .i64 n)) (ds := []) (bm 10 0) (by kernel_rfl) rfl rfl ?_ (fun hHeld => ?_)
  case refine_1 => exact HSS.out _ HBp.out
  refine pure_ (i := 1) (N := some 55) (v := ?_) (a' := ?_) (bm 10 2) rfl rfl (by kernel_rfl) (fun _ _ _ h => h) (Or.inl ⟨by rfl, ?_⟩) ?_ ?_
  rotate_left
  ·
   intro u
   go_simp
   with_reducible rfl
  rotate_left
  ·
   simp only [pz]
   rfl
  refine take_ (i := 2) (N := some 56) (v := ?_) (a' := ?_) (bm 10 6) rfl rfl (by kernel_rfl) (fun _ _ _ h => h) (Or.inl ⟨by rfl, ?_⟩) hHeld ?_ ?_
  rotate_left
  ·
   rintro u ⟨s1, s2⟩
   go_simp
   with_reducible rfl
  rotate_left
  ·
   simp only [pz]
   rfl
  refine pure_ (i := 4) (N := some 58) (v := ?_) (a' := ?_) (bm 10 22) rfl rfl (by kernel_rfl) (fun _ _ _ h => h) (Or.inl ⟨by rfl, ?_⟩) ?_ ?_
  rotate_left
  ·
   intro u
   go_simp
   with_reducible rfl
  rotate_left
  ·
   simp only [pz]
   rfl
  refine take_ (i := 5) (N := some 59) (v := ?_) (a' := ?_) (bm 10 54) rfl rfl (by kernel_rfl) (fun _ _ _ h => h) (Or.inl ⟨by rfl, ?_⟩) hHeld ?_ ?_
  rotate_left
  ·
   rintro u ⟨s1, s2⟩
   go_simp
   with_reducible rfl
  rotate_left
  ·
   simp only [pz]
   rfl
  clear hHeld y1 y2
  refine join_ (σ := Value × (Option Addr × Nat) × (Option Addr × Nat) × Nat) 2 (bm 10 255) (fun s => [(54, s.1), (57, .slice s.2.1.1 (U r).length s.2.1.2), (60, .slice s.2.2.1.1 (U n).length s.2.2.1.2), (61, .slice (some ⟨s.2.2.2, 0, none⟩) 2 2)]) (fun s W => Below w0.heap.size w0 W ∧ Own W w0.heap.size s.1 [12] ∧ (Own W w0.heap.size (.slice s.2.1.1 (U r).length s.2.1.2) (U r) ∧ ((.slice s.2.1.1 (U r).length s.2.1.2 : Value).ownBlock = none ∨ (.slice s.2.1.1 (U r).length s.2.1.2 : Value).ownBlock ≠ s.1.ownBlock)) ∧ (Own W w0.heap.size (.slice s.2.2.1.1 (U n).length s.2.2.1.2) (U n) ∧ ((.slice s.2.2.1.1 (U n).length s.2.2.1.2 : Value).ownBlock = none ∨ (.slice s.2.2.1.1 (U n).length s.2.2.1.2 : Value).ownBlock ≠ s.1.ownBlock)) ∧ W.heap[s.2.2.2]? = some (.cells #[.slice s.2.1.1 (U r).length s.2.1.2, .slice s.2.2.1.1 (U n).length s.2.2.1.2] 28 (0, 0))) ?_ ?_
  ·
   rintro ⟨v3, ⟨A0, c0⟩, ⟨A1, c1⟩, g⟩ W ⟨f0, f1, ⟨p0, q0⟩, ⟨p1, q1⟩, fg⟩
   have F0 := am f0
   have F1 := am f1
   have FG := am fg
   have P0 := am (And.intro p0 q0)
   have P1 := am (And.intro p1 q1)
   clear f0 f1 fg p0 q0 p1 q1
   refine norm_ (a' := ?_) ?_ ?_
   rotate_left
   ·
    simp only [putAll, Act.put, List.setIfInBounds_toArray, List.set_cons_zero, List.set_cons_succ]
    rfl
   refine one_ (i := 8) (N := some 62) (bm 10 511) rfl rfl (by kernel_rfl) (by decide) (fun K hK => ?_)
   refine call_ 79 #[v3, .slice (some ⟨g, 0, none⟩) 2 2] (by rfl) rfl (by go_simp) ?_
   refine (put2_calls (wb := w0) F1.out P0.out.1 P1.out.1 P0.out.2 P1.out.2 FG.out (by simp) (by omega) (by omega) F0.out).mono ?_
   rintro e w6 ⟨v6, rfl, hR6, hB6⟩
   refine ⟨_, rfl, ?_⟩
   have HB6 := am hB6
   refine hK.out _ _ (HSS.out _ hB6) (fun _ => ?_)
   clear hK K hB6
   refine norm_ (a' := ?_) ?_ ?_
   rotate_left
   ·
    show Act.put _ (some 62) _ = _
    simp only [pz]
    rfl
   refine pure_ (i := 9) (N := some 2) (v := ?_) (a' := ?_) (bm 10 1023) rfl rfl (by kernel_rfl) (fun _ _ _ h => h) (Or.inl ⟨by rfl, ?_⟩) ?_ ?_
   rotate_left
   ·
    intro u
    go_simp
    with_reducible rfl
   rotate_left
   ·
    simp only [pz]
    rfl
   refine done_ (by kernel_rfl) ?_
   go_wp2
   go_ret
   refine ⟨_, rfl, Kd.R_lower (show Own _ _ _ (opB 2 r n) from ?_) HB0.out.size, below_then HB0.out HB0.out.size HB6.out⟩
   exact hR6
  intro hJ
  refine two_ (i := 0) (j := 3) (Ni := some 54) (Nj := some 57) (bm 10 55) (bm 10 62) rfl rfl rfl rfl (by kernel_rfl) (by decide) (by decide) (fun K hK => ?_) (fun K hK => ?_)
  ·
   skip
   refine Kd.R_lit_step (Kd.int .u8) _ 5 ?hg (N := 54) ?hd (xs := ([12] : List Int)) (inner := [.int .u8 (12)]) (ok := fun _ => True) (okp := fun _ => True) ?hr (Reps.one (show Kd.M (Kd.int .u8) _ _ _ (12) [.int .u8 (12)] from rfl) (Reps.none _ _)) (fun _ hk => hk) trivial (Below.refl _ _) (Nat.le_refl _) (by simp) ?_; (case hd => rfl); (case hg => rfl); (case hr => first | (go_simp; done) | (go_simp; rfl))
   intro vL1 wL1 hR hB _ _
   have HB_1 := am (below_then HBp.out HBp.out.size hB)
   have HL_1 := am (Kd.R_lower hR HBp.out.size)
   clear hB hR
   refine hK.out _ _ (HSS.out _ HB_1.out) (fun _ => ?_)
   clear hK K
   refine norm_ (a' := ?_) ?_ ?_
   rotate_left
   ·
    show Act.put _ (some 54) _ = _
    simp only [pz]
    rfl
   refine one_ (i := 3) (N := some 57) (bm 10 63) rfl rfl (by kernel_rfl) (by decide) (fun K hK => ?_)
   refine call_ 38 #[.int .i64 r] (by rfl) rfl (by go_simp) ?_
   refine (leb_Uleb.calls 10 (r) (U (r)) _ (U_f (r) 10 (by omega))).mono ?_
   rintro e wC2 ⟨xC2, rfl, hR, hB⟩
   refine ⟨_, rfl, ?_⟩
   obtain ⟨AC2, cC2, rfl⟩ := Kd.R_slice hR
   have HB_2 := am (below_then HB_1.out HB_1.out.size hB)
   have HX_2 := am (Kd.R_lower hR HB_1.out.size)
   have N_2_0 := am (own_ne HL_1.out hR).2
   have HL_2 := am (Own.below HL_1.out hB)
   clear hB hR
   refine hK.out _ _ (HSS.out _ HB_2.out) (fun _ => ?_)
   clear hK K
   refine norm_ (a' := ?_) ?_ ?_
   rotate_left
   ·
    show Act.put _ (some 57) _ = _
    simp only [pz]
    rfl
   refine one_ (i := 6) (N := some 60) (bm 10 127) rfl rfl (by kernel_rfl) (by decide) (fun K hK => ?_)
   refine call_ 38 #[.int .i64 n] (by rfl) rfl (by go_simp) ?_
   refine (leb_Uleb.calls 10 (n) (U (n)) _ (U_f (n) 10 (by omega))).mono ?_
   rintro e wC3 ⟨xC3, rfl, hR, hB⟩
   refine ⟨_, rfl, ?_⟩
   obtain ⟨AC3, cC3, rfl⟩ := Kd.R_slice hR
   have HB_3 := am (below_then HB_2.out HB_2.out.size hB)
   have HX_3 := am (Kd.R_lower hR HB_2.out.size)
   have N_3_1 := am (own_ne HL_2.out hR).2
   have HL_3 := am (Own.below HL_2.out hB)
   have HX_3_0 := am (Own.below HX_2.out hB)
   clear hB hR
   refine hK.out _ _ (HSS.out _ HB_3.out) (fun _ => ?_)
   clear hK K
   refine norm_ (a' := ?_) ?_ ?_
   rotate_left
   ·
    show Act.put _ (some 60) _ = _
    simp only [pz]
    rfl
   refine one_ (i := 7) (N := some 61) (bm 10 255) rfl rfl (by kernel_rfl) (by decide) (fun K hK => ?_)
   refine event_step (v := .slice (some ⟨wC3.heap.size, 0, none⟩) 2 2) (w1 := (wC3.alloc (.cells #[.slice AC2 (U r).length cC2, .slice AC3 (U n).length cC3] 28))) rfl (by first | (go_simp; done) | (go_simp; rfl)) ?_
   have hB := below_alloc (Below.refl wC3.heap.size wC3) (.cells #[.slice AC2 (U r).length cC2, .slice AC3 (U n).length cC3] 28)
   have HB_4 := am (below_then HB_3.out HB_3.out.size hB)
   have hg_4 := blk_new wC3 (.cells #[.slice AC2 (U r).length cC2, .slice AC3 (U n).length cC3] 28)
   have HL_4 := am (Own.below HL_3.out hB)
   have HX_4_0 := am (Own.below HX_3_0.out hB)
   have HX_4_1 := am (Own.below HX_3.out hB)
   clear hB
   refine hK.out _ _ (HSS.out _ HB_4.out) (fun _ => ?_)
   clear hK K
   refine norm_ (a' := ?_) ?_ ?_
   rotate_left
   ·
    show Act.put _ (some 61) _ = _
    simp only [pz]
    rfl
   exact norm_ (by first | (simp only [putAll, Act.put, List.setIfInBounds_toArray, List.set_cons_zero, List.set_cons_succ]; done) | (simp only [putAll, Act.put, List.setIfInBounds_toArray, List.set_cons_zero, List.set_cons_succ]; rfl)) (hJ (vL1, (AC2, cC2), (AC3, cC3), wC3.heap.size) _ ⟨HB_4.out, HL_4.out, ⟨HX_4_0.out, N_2_0.out⟩, ⟨HX_4_1.out, N_3_1.out⟩, hg_4⟩)
  skip
  refine call_ 38 #[.int .i64 r] (by rfl) rfl (by go_simp) ?_
  refine (leb_Uleb.calls 10 (r) (U (r)) _ (U_f (r) 10 (by omega))).mono ?_
  rintro e wC5 ⟨xC5, rfl, hR, hB⟩
  refine ⟨_, rfl, ?_⟩
  obtain ⟨AC5, cC5, rfl⟩ := Kd.R_slice hR
  have HB_5 := am (below_then HBp.out HBp.out.size hB)
  have HX_5 := am (Kd.R_lower hR HBp.out.size)
  clear hB hR
  refine hK.out _ _ (HSS.out _ HB_5.out) (fun _ => ?_)
  clear hK K
  refine norm_ (a' := ?_) ?_ ?_
  rotate_left
  ·
   show Act.put _ (some 57) _ = _
   simp only [pz]
   rfl
  refine two_ (i := 0) (j := 6) (Ni := some 54) (Nj := some 60) (bm 10 63) (bm 10 126) rfl rfl rfl rfl (by kernel_rfl) (by decide) (by decide) (fun K hK => ?_) (fun K hK => ?_)
  ·
   skip
   refine Kd.R_lit_step (Kd.int .u8) _ 5 ?hg (N := 54) ?hd (xs := ([12] : List Int)) (inner := [.int .u8 (12)]) (ok := fun _ => True) (okp := fun _ => True) ?hr (Reps.one (show Kd.M (Kd.int .u8) _ _ _ (12) [.int .u8 (12)] from rfl) (Reps.none _ _)) (fun _ hk => hk) trivial (Below.refl _ _) (Nat.le_refl _) (by simp) ?_; (case hd => rfl); (case hg => rfl); (case hr => first | (go_simp; done) | (go_simp; rfl))
   intro vL6 wL6 hR hB _ _
   have HB_6 := am (below_then HB_5.out HB_5.out.size hB)
   have HL_6 := am (Kd.R_lower hR HB_5.out.size)
   have N_6_0 := am (own_ne HX_5.out hR).1
   have HX_6_0 := am (Own.below HX_5.out hB)
   clear hB hR
   refine hK.out _ _ (HSS.out _ HB_6.out) (fun _ => ?_)
   clear hK K
   refine norm_ (a' := ?_) ?_ ?_
   rotate_left
   ·
    show Act.put _ (some 54) _ = _
    simp only [pz]
    rfl
   refine one_ (i := 6) (N := some 60) (bm 10 127) rfl rfl (by kernel_rfl) (by decide) (fun K hK => ?_)
   refine call_ 38 #[.int .i64 n] (by rfl) rfl (by go_simp) ?_
   refine (leb_Uleb.calls 10 (n) (U (n)) _ (U_f (n) 10 (by omega))).mono ?_
   rintro e wC7 ⟨xC7, rfl, hR, hB⟩
   refine ⟨_, rfl, ?_⟩
   obtain ⟨AC7, cC7, rfl⟩ := Kd.R_slice hR
   have HB_7 := am (below_then HB_6.out HB_6.out.size hB)
   have HX_7 := am (Kd.R_lower hR HB_6.out.size)
   have N_7_1 := am (own_ne HL_6.out hR).2
   have HL_7 := am (Own.below HL_6.out hB)
   have HX_7_0 := am (Own.below HX_6_0.out hB)
   clear hB hR
   refine hK.out _ _ (HSS.out _ HB_7.out) (fun _ => ?_)
   clear hK K
   refine norm_ (a' := ?_) ?_ ?_
   rotate_left
   ·
    show Act.put _ (some 60) _ = _
    simp only [pz]
    rfl
   refine one_ (i := 7) (N := some 61) (bm 10 255) rfl rfl (by kernel_rfl) (by decide) (fun K hK => ?_)
   refine event_step (v := .slice (some ⟨wC7.heap.size, 0, none⟩) 2 2) (w1 := (wC7.alloc (.cells #[.slice AC5 (U r).length cC5, .slice AC7 (U n).length cC7] 28))) rfl (by first | (go_simp; done) | (go_simp; rfl)) ?_
   have hB := below_alloc (Below.refl wC7.heap.size wC7) (.cells #[.slice AC5 (U r).length cC5, .slice AC7 (U n).length cC7] 28)
   have HB_8 := am (below_then HB_7.out HB_7.out.size hB)
   have hg_8 := blk_new wC7 (.cells #[.slice AC5 (U r).length cC5, .slice AC7 (U n).length cC7] 28)
   have HL_8 := am (Own.below HL_7.out hB)
   have HX_8_0 := am (Own.below HX_7_0.out hB)
   have HX_8_1 := am (Own.below HX_7.out hB)
   clear hB
   refine hK.out _ _ (HSS.out _ HB_8.out) (fun _ => ?_)
   clear hK K
   refine norm_ (a' := ?_) ?_ ?_
   rotate_left
   ·
    show Act.put _ (some 61) _ = _
    simp only [pz]
    rfl
   exact norm_ (by first | (simp only [putAll, Act.put, List.setIfInBounds_toArray, List.set_cons_zero, List.set_cons_succ]; done) | (simp only [putAll, Act.put, List.setIfInBounds_toArray, List.set_cons_zero, List.set_cons_succ]; rfl)) (hJ (vL6, (AC5, cC5), (AC7, cC7), wC7.heap.size) _ ⟨HB_8.out, HL_8.out, ⟨HX_8_0.out, N_6_0.out⟩, ⟨HX_8_1.out, N_7_1.out⟩, hg_8⟩)
  skip
  refine call_ 38 #[.int .i64 n] (by rfl) rfl (by go_simp) ?_
  refine (leb_Uleb.calls 10 (n) (U (n)) _ (U_f (n) 10 (by omega))).mono ?_
  rintro e wC9 ⟨xC9, rfl, hR, hB⟩
  refine ⟨_, rfl, ?_⟩
  obtain ⟨AC9, cC9, rfl⟩ := Kd.R_slice hR
  have HB_9 := am (below_then HB_5.out HB_5.out.size hB)
  have HX_9 := am (Kd.R_lower hR HB_5.out.size)
  have HX_9_0 := am (Own.below HX_5.out hB)
  clear hB hR
  refine hK.out _ _ (HSS.out _ HB_9.out) (fun _ => ?_)
  clear hK K
  refine norm_ (a' := ?_) ?_ ?_
  rotate_left
  ·
   show Act.put _ (some 60) _ = _
   simp only [pz]
   rfl
  refine two_ (i := 0) (j := 7) (Ni := some 54) (Nj := some 61) (bm 10 127) (bm 10 254) rfl rfl rfl rfl (by kernel_rfl) (by decide) (by decide) (fun K hK => ?_) (fun K hK => ?_)
  ·
   skip
   refine Kd.R_lit_step (Kd.int .u8) _ 5 ?hg (N := 54) ?hd (xs := ([12] : List Int)) (inner := [.int .u8 (12)]) (ok := fun _ => True) (okp := fun _ => True) ?hr (Reps.one (show Kd.M (Kd.int .u8) _ _ _ (12) [.int .u8 (12)] from rfl) (Reps.none _ _)) (fun _ hk => hk) trivial (Below.refl _ _) (Nat.le_refl _) (by simp) ?_; (case hd => rfl); (case hg => rfl); (case hr => first | (go_simp; done) | (go_simp; rfl))
   intro vL10 wL10 hR hB _ _
   have HB_10 := am (below_then HB_9.out HB_9.out.size hB)
   have HL_10 := am (Kd.R_lower hR HB_9.out.size)
   have N_10_0 := am (own_ne HX_9_0.out hR).1
   have N_10_1 := am (own_ne HX_9.out hR).1
   have HX_10_0 := am (Own.below HX_9_0.out hB)
   have HX_10_1 := am (Own.below HX_9.out hB)
   clear hB hR
   refine hK.out _ _ (HSS.out _ HB_10.out) (fun _ => ?_)
   clear hK K
   refine norm_ (a' := ?_) ?_ ?_
   rotate_left
   ·
    show Act.put _ (some 54) _ = _
    simp only [pz]
    rfl
   refine one_ (i := 7) (N := some 61) (bm 10 255) rfl rfl (by kernel_rfl) (by decide) (fun K hK => ?_)
   refine event_step (v := .slice (some ⟨wL10.heap.size, 0, none⟩) 2 2) (w1 := (wL10.alloc (.cells #[.slice AC5 (U r).length cC5, .slice AC9 (U n).length cC9] 28))) rfl (by first | (go_simp; done) | (go_simp; rfl)) ?_
   have hB := below_alloc (Below.refl wL10.heap.size wL10) (.cells #[.slice AC5 (U r).length cC5, .slice AC9 (U n).length cC9] 28)
   have HB_11 := am (below_then HB_10.out HB_10.out.size hB)
   have hg_11 := blk_new wL10 (.cells #[.slice AC5 (U r).length cC5, .slice AC9 (U n).length cC9] 28)
   have HL_11 := am (Own.below HL_10.out hB)
   have HX_11_0 := am (Own.below HX_10_0.out hB)
   have HX_11_1 := am (Own.below HX_10_1.out hB)
   clear hB
   refine hK.out _ _ (HSS.out _ HB_11.out) (fun _ => ?_)
   clear hK K
   refine norm_ (a' := ?_) ?_ ?_
   rotate_left
   ·
    show Act.put _ (some 61) _ = _
    simp only [pz]
    rfl
   exact norm_ (by first | (simp only [putAll, Act.put, List.setIfInBounds_toArray, List.set_cons_zero, List.set_cons_succ]; done) | (simp only [putAll, Act.put, List.setIfInBounds_toArray, List.set_cons_zero, List.set_cons_succ]; rfl)) (hJ (vL10, (AC5, cC5), (AC9, cC9), wL10.heap.size) _ ⟨HB_11.out, HL_11.out, ⟨HX_11_0.out, N_10_0.out⟩, ⟨HX_11_1.out, N_10_1.out⟩, hg_11⟩)
  skip
  refine event_step (v := .slice (some ⟨wC9.heap.size, 0, none⟩) 2 2) (w1 := (wC9.alloc (.cells #[.slice AC5 (U r).length cC5, .slice AC9 (U n).length cC9] 28))) rfl (by first | (go_simp; done) | (go_simp; rfl)) ?_
  have hB := below_alloc (Below.refl wC9.heap.size wC9) (.cells #[.slice AC5 (U r).length cC5, .slice AC9 (U n).length cC9] 28)
  have HB_12 := am (below_then HB_9.out HB_9.out.size hB)
  have hg_12 := blk_new wC9 (.cells #[.slice AC5 (U r).length cC5, .slice AC9 (U n).length cC9] 28)
  have HX_12_0 := am (Own.below HX_9_0.out hB)
  have HX_12_1 := am (Own.below HX_9.out hB)
  clear hB
  refine hK.out _ _ (HSS.out _ HB_12.out) (fun _ => ?_)
  clear hK K
  refine norm_ (a' := ?_) ?_ ?_
  rotate_left
  ·
   show Act.put _ (some 61) _ = _
   simp only [pz]
   rfl
  refine one_ (i := 0) (N := some 54) (bm 10 255) rfl rfl (by kernel_rfl) (by decide) (fun K hK => ?_)
  refine Kd.R_lit_step (Kd.int .u8) _ 5 ?hg (N := 54) ?hd (xs := ([12] : List Int)) (inner := [.int .u8 (12)]) (ok := fun _ => True) (okp := fun _ => True) ?hr (Reps.one (show Kd.M (Kd.int .u8) _ _ _ (12) [.int .u8 (12)] from rfl) (Reps.none _ _)) (fun _ hk => hk) trivial (Below.refl _ _) (Nat.le_refl _) (by simp) ?_; (case hd => rfl); (case hg => rfl); (case hr => first | (go_simp; done) | (go_simp; rfl))
  intro vL13 wL13 hR hB _ _
  have HB_13 := am (below_then HB_12.out HB_12.out.size hB)
  have HL_13 := am (Kd.R_lower hR HB_12.out.size)
  have N_13_0 := am (own_ne HX_12_0.out hR).1
  have N_13_1 := am (own_ne HX_12_1.out hR).1
  have HX_13_0 := am (Own.below HX_12_0.out hB)
  have HX_13_1 := am (Own.below HX_12_1.out hB)
  have hg_13 := blk_below hg_12 hB
  clear hB hR
  refine hK.out _ _ (HSS.out _ HB_13.out) (fun _ => ?_)
  clear hK K
  refine norm_ (a' := ?_) ?_ ?_
  rotate_left
  ·
   show Act.put _ (some 54) _ = _
   simp only [pz]
   rfl
  exact norm_ (by first | (simp only [putAll, Act.put, List.setIfInBounds_toArray, List.set_cons_zero, List.set_cons_succ]; done) | (simp only [putAll, Act.put, List.setIfInBounds_toArray, List.set_cons_zero, List.set_cons_succ]; rfl)) (hJ (vL13, (AC5, cC5), (AC9, cC9), wC9.heap.size) _ ⟨HB_13.out, HL_13.out, ⟨HX_13_0.out, N_13_0.out⟩, ⟨HX_13_1.out, N_13_1.out⟩, hg_13⟩)
 ·
  skip
  go_wp2_with ((with_reducible refine gate_dst (N := 73) rfl ?_); refine stopB ?stop)
  case stop =>
   unfold StopB
   refine Kd.R_lit (Kd.int .u8) _ 5 ?hg (N := 73) ?hd (xs := ([14] : List Int)) (inner := [.int .u8 (14)]) (ok := fun _ => True) (okp := fun _ => True) ?hr (Reps.one (show Kd.M (Kd.int .u8) _ _ _ (14) [.int .u8 (14)] from rfl) (Reps.none _ _)) (fun _ hk => hk) trivial (Below.refl _ _) (Nat.le_refl _) (by simp) ?_
   case hd => rfl
   case hg => rfl
   case hr => first | (go_simp; done) | (go_simp; rfl)
   intro v3 w3 hR3 hB3 _ _
   have HV := am (Kd.R_lower hR3 (Nat.le_refl _))
   have z2 : w3.cell? ⟨w.heap.size, 2, none⟩ = some (.int .i64 n) := (blk_cell (blk_below HG.out hB3) 2).trans rfl
   have HB3 := am hB3
   clear hB3 y0 y1 y2 hR3
   go_wp2_with fail
   refine (leb_Uleb.calls 10 n (U n) w3 (U_f n 10 (by omega))).mono ?_
   rintro e w4 ⟨v4, rfl, hR4, hB4⟩
   have HN := am (own_ne HV.out hR4).2
   have HV4 := am (Own.below HV.out hB4)
   have HB4 := am (below_then HB3.out HB3.out.size hB4)
   have HX := am (Kd.R_lower hR4 HB3.out.size)
   obtain ⟨A4, c4, rfl⟩ := Kd.R_slice hR4
   clear hR4 hB4
   go_wp2_with fail
   have hG5 := blk_new w4 (.cells #[.slice A4 (U n).length c4] 28)
   have hB5 := below_alloc (Below.refl w4.heap.size w4) (.cells #[.slice A4 (U n).length c4] 28)
   obtain ⟨w5, hw5⟩ : ∃ w5, w5 = w4.alloc (.cells #[.slice A4 (U n).length c4] 28) := ⟨_, rfl⟩
   rw [← hw5] at hG5 hB5 ⊢
   refine (put1_calls (wb := w0) (Own.below HV4.out hB5) (Own.below HX.out hB5) HN.out hG5 (by simp) (by omega) (below_then HB4.out HB4.out.size hB5)).mono ?_
   rintro e w6 ⟨u, rfl, hR6, hB6⟩
   go_wp2
   go_ret
   exact ⟨_, rfl, Kd.R_lower (show Own _ _ _ (opB 3 r n) from hR6) HB0.out.size, below_then HB0.out HB0.out.size hB6⟩
 ·
  skip
  go_wp2_with ((with_reducible refine gate_dst (N := 65) rfl ?_); refine stopB ?stop)
  case stop =>
   unfold StopB
   refine Kd.R_lit (Kd.int .u8) _ 5 ?hg (N := 65) ?hd (xs := ([13] : List Int)) (inner := [.int .u8 (13)]) (ok := fun _ => True) (okp := fun _ => True) ?hr (Reps.one (show Kd.M (Kd.int .u8) _ _ _ (13) [.int .u8 (13)] from rfl) (Reps.none _ _)) (fun _ hk => hk) trivial (Below.refl _ _) (Nat.le_refl _) (by simp) ?_
   case hd => rfl
   case hg => rfl
   case hr => first | (go_simp; done) | (go_simp; rfl)
   intro v3 w3 hR3 hB3 _ _
   have HV := am (Kd.R_lower hR3 (Nat.le_refl _))
   have z1 : w3.cell? ⟨w.heap.size, 1, none⟩ = some (.int .i64 r) := (blk_cell (blk_below HG.out hB3) 1).trans rfl
   have HB3 := am hB3
   clear hB3 y0 y1 y2 hR3
   go_wp2_with fail
   refine (leb_Uleb.calls 10 r (U r) w3 (U_f r 10 (by omega))).mono ?_
   rintro e w4 ⟨v4, rfl, hR4, hB4⟩
   have HN := am (own_ne HV.out hR4).2
   have HV4 := am (Own.below HV.out hB4)
   have HB4 := am (below_then HB3.out HB3.out.size hB4)
   have HX := am (Kd.R_lower hR4 HB3.out.size)
   obtain ⟨A4, c4, rfl⟩ := Kd.R_slice hR4
   clear hR4 hB4
   go_wp2_with fail
   have hG5 := blk_new w4 (.cells #[.slice A4 (U r).length c4] 28)
   have hB5 := below_alloc (Below.refl w4.heap.size w4) (.cells #[.slice A4 (U r).length c4] 28)
   obtain ⟨w5, hw5⟩ : ∃ w5, w5 = w4.alloc (.cells #[.slice A4 (U r).length c4] 28) := ⟨_, rfl⟩
   rw [← hw5] at hG5 hB5 ⊢
   refine (put1_calls (wb := w0) (Own.below HV4.out hB5) (Own.below HX.out hB5) HN.out hG5 (by simp) (by omega) (below_then HB4.out HB4.out.size hB5)).mono ?_
   rintro e w6 ⟨u, rfl, hR6, hB6⟩
   go_wp2
   go_ret
   exact ⟨_, rfl, Kd.R_lower (show Own _ _ _ (opB 4 r n) from hR6) HB0.out.size, below_then HB0.out HB0.out.size hB6⟩
 ·
  obtain ⟨m, rfl, h1, h2, h3, h4⟩ := may5 HM.out
  have e : 8 * m / 8 = m := Int.mul_ediv_cancel_left m (by decide)
  have HQ := am (show wrap64 ((wrap64 (-(8 * m))).tdiv 8) = -m from by rw [wrap64_id (n := -(8 * m)) (by omega) (by omega), show -(8 * m) = 8 * (-m) from by omega, Int.mul_tdiv_cancel_left (-m) (show (8 : Int) ≠ 0 by decide), wrap64_id (by omega) (by omega)])
  have HWR := am (show IntKind.u8.wrap (128 + IntKind.u8.wrap r) = (128 + r) % 256 from by show (128 + r % 256) % 256 = (128 + r) % 256; omega)
  have HE := am e
  have hum := U_le (-m)
  have hsm := S_le (a := -m) (by omega) (by omega)
  clear e
  by_cases hd : 8 * m ≤ 0
  ·
   have hdd : decide (8 * m ≤ 0) = true := decide_eq_true hd
   have HSS : Aside0 (∀ u, Below w0.heap.size w0 u → u.cell? ⟨w.heap.size, 1, none⟩ = some (.int .i64 r) ∧ u.cell? ⟨w.heap.size, 2, none⟩ = some (.int .i64 (8 * m))) := ⟨fun u hu => ⟨(blk_cell (blk_below HG.out hu) 1).trans rfl, (blk_cell (blk_below HG.out hu) 2).trans rfl⟩⟩
   have HBp : Aside0 (Below w0.heap.size w0 w0.drew) := ⟨below_drew (Below.refl _ _)⟩
   go_upto_region 18 with fail
   clear y0
   refine start_ (n := 13) (S := fun u => u.cell? ⟨w.heap.size, 1, none⟩ = some (.int .i64 r) ∧ u.cell? ⟨w.heap.size, 2, none⟩ = some (.int .i64 (8 * m))) (ds := []) (bm 13 0) (by kernel_rfl) rfl rfl ?_ (fun hHeld => ?_)
   case refine_1 => exact HSS.out _ HBp.out
   refine pure_ (i := 0) (N := some 84) (v := ?_) (a' := ?_) (bm 13 1) rfl rfl (by kernel_rfl) (fun _ _ _ h => h) (Or.inl ⟨by rfl, ?_⟩) ?_ ?_
   rotate_left
   ·
    intro u
    go_simp
    with_reducible rfl
   rotate_left
   ·
    simp only [pz]
    rfl
   refine take_ (i := 1) (N := some 85) (v := ?_) (a' := ?_) (bm 13 3) rfl rfl (by kernel_rfl) (fun _ _ _ h => h) (Or.inl ⟨by rfl, ?_⟩) hHeld ?_ ?_
   rotate_left
   ·
    rintro u ⟨s1, s2⟩
    go_simp
    with_reducible rfl
   rotate_left
   ·
    simp only [pz]
    rfl
   refine pure_ (i := 2) (N := some 86) (v := ?_) (a' := ?_) (bm 13 7) rfl rfl (by kernel_rfl) (fun _ _ _ h => h) (Or.inl ⟨by rfl, ?_⟩) ?_ ?_
   rotate_left
   ·
    intro u
    go_simp
    with_reducible rfl
   rotate_left
   ·
    simp only [pz]
    rfl
   refine pure_ (i := 3) (N := some 87) (v := ?_) (a' := ?_) (bm 13 15) rfl rfl (by kernel_rfl) (fun _ _ _ h => h) (Or.inl ⟨by rfl, ?_⟩) ?_ ?_
   rotate_left
   ·
    intro u
    go_simp
    with_reducible rfl
   rotate_left
   ·
    simp only [pz]
    rfl
   refine pure_ (i := 5) (N := some 89) (v := ?_) (a' := ?_) (bm 13 47) rfl rfl (by kernel_rfl) (fun _ _ _ h => h) (Or.inl ⟨by rfl, ?_⟩) ?_ ?_
   rotate_left
   ·
    intro u
    go_simp
    with_reducible rfl
   rotate_left
   ·
    simp only [pz]
    rfl
   refine take_ (i := 6) (N := some 90) (v := ?_) (a' := ?_) (bm 13 111) rfl rfl (by kernel_rfl) (fun _ _ _ h => h) (Or.inl ⟨by rfl, ?_⟩) hHeld ?_ ?_
   rotate_left
   ·
    rintro u ⟨s1, s2⟩
    go_simp
    with_reducible rfl
   rotate_left
   ·
    simp only [pz]
    rfl
   refine pure_ (i := 7) (N := some 91) (v := ?_) (a' := ?_) (bm 13 239) rfl rfl (by kernel_rfl) (fun _ _ _ h => h) (Or.inl ⟨by rfl, ?_⟩) ?_ ?_
   rotate_left
   ·
    intro u
    go_simp
    with_reducible rfl
   rotate_left
   ·
    simp only [pz]
    rfl
   refine pure_ (i := 8) (N := some 92) (v := ?_) (a' := ?_) (bm 13 495) rfl rfl (by kernel_rfl) (fun _ _ _ h => h) (Or.inl ⟨by rfl, ?_⟩) ?_ ?_
   rotate_left
   ·
    intro u
    go_simp
    with_reducible rfl
   rotate_left
   ·
    simp only [pz]
    rfl
   clear hHeld y1 y2
   refine join_ (σ := Value × (Option Addr × Nat) × Nat) 2 (bm 13 2047) (fun s => [(88, s.1), (93, .slice s.2.1.1 (U (-m)).length s.2.1.2), (94, .slice (some ⟨s.2.2, 0, none⟩) 1 1)]) (fun s W => Below w0.heap.size w0 W ∧ Own W w0.heap.size s.1 [IntKind.u8.wrap (128 + IntKind.u8.wrap r)] ∧ (Own W w0.heap.size (.slice s.2.1.1 (U (-m)).length s.2.1.2) (U (-m)) ∧ ((.slice s.2.1.1 (U (-m)).length s.2.1.2 : Value).ownBlock = none ∨ (.slice s.2.1.1 (U (-m)).length s.2.1.2 : Value).ownBlock ≠ s.1.ownBlock)) ∧ W.heap[s.2.2]? = some (.cells #[.slice s.2.1.1 (U (-m)).length s.2.1.2] 28 (0, 0))) ?_ ?_
   ·
    rintro ⟨v3, ⟨A0, c0⟩, g⟩ W ⟨f0, f1, ⟨p0, q0⟩, fg⟩
    have F0 := am f0
    have F1 := am f1
    have FG := am fg
    have P0 := am (And.intro p0 q0)
    clear f0 f1 fg p0 q0
    refine norm_ (a' := ?_) ?_ ?_
    rotate_left
    ·
     simp only [putAll, Act.put, List.setIfInBounds_toArray, List.set_cons_zero, List.set_cons_succ]
     rfl
    refine one_ (i := 11) (N := some 95) (bm 13 4095) rfl rfl (by kernel_rfl) (by decide) (fun K hK => ?_)
    refine call_ 79 #[v3, .slice (some ⟨g, 0, none⟩) 1 1] (by rfl) rfl (by go_simp) ?_
    refine (put1_calls (wb := w0) F1.out P0.out.1 P0.out.2 FG.out (by simp) (by omega) F0.out).mono ?_
    rintro e w6 ⟨v6, rfl, hR6, hB6⟩
    refine ⟨_, rfl, ?_⟩
    have HB6 := am hB6
    refine hK.out _ _ (HSS.out _ hB6) (fun _ => ?_)
    clear hK K hB6
    refine norm_ (a' := ?_) ?_ ?_
    rotate_left
    ·
     show Act.put _ (some 95) _ = _
     simp only [pz]
     rfl
    refine pure_ (i := 12) (N := some 2) (v := ?_) (a' := ?_) (bm 13 8191) rfl rfl (by kernel_rfl) (fun _ _ _ h => h) (Or.inl ⟨by rfl, ?_⟩) ?_ ?_
    rotate_left
    ·
     intro u
     go_simp
     with_reducible rfl
    rotate_left
    ·
     simp only [pz]
     rfl
    refine done_ (by kernel_rfl) ?_
    go_wp2
    go_ret
    refine ⟨_, rfl, Kd.R_lower (show Own _ _ _ (opB 5 r (8 * m)) from ?_) HB0.out.size, below_then HB0.out HB0.out.size HB6.out⟩
    rw [show opB 5 r (8 * m) = [(128 + r) % 256] ++ U (-(8 * m / 8)) from if_pos (show 8 * m ≤ 0 by omega), HE.out, ← HWR.out]
    exact hR6
   intro hJ
   refine two_ (i := 4) (j := 9) (Ni := some 88) (Nj := some 93) (bm 13 511) (bm 13 1007) rfl rfl rfl rfl (by kernel_rfl) (by decide) (by decide) (fun K hK => ?_) (fun K hK => ?_)
   ·
    skip
    refine Kd.R_lit_step (Kd.int .u8) _ 5 ?hg (N := 88) ?hd (xs := ([IntKind.u8.wrap (128 + IntKind.u8.wrap r)] : List Int)) (inner := [.int .u8 (IntKind.u8.wrap (128 + IntKind.u8.wrap r))]) (ok := fun _ => True) (okp := fun _ => True) ?hr (Reps.one (show Kd.M (Kd.int .u8) _ _ _ (IntKind.u8.wrap (128 + IntKind.u8.wrap r)) [.int .u8 (IntKind.u8.wrap (128 + IntKind.u8.wrap r))] from rfl) (Reps.none _ _)) (fun _ hk => hk) trivial (Below.refl _ _) (Nat.le_refl _) (by simp) ?_; (case hd => rfl); (case hg => rfl); (case hr => first | (go_simp; done) | (go_simp; rfl))
    intro vL1 wL1 hR hB _ _
    have HB_1 := am (below_then HBp.out HBp.out.size hB)
    have HL_1 := am (Kd.R_lower hR HBp.out.size)
    clear hB hR
    refine hK.out _ _ (HSS.out _ HB_1.out) (fun _ => ?_)
    clear hK K
    refine norm_ (a' := ?_) ?_ ?_
    rotate_left
    ·
     show Act.put _ (some 88) _ = _
     simp only [pz]
     rfl
    refine one_ (i := 9) (N := some 93) (bm 13 1023) rfl rfl (by kernel_rfl) (by decide) (fun K hK => ?_)
    refine call_ 38 #[.int .i64 (-m)] (by rfl) rfl (by go_simp; exact HQ.out) ?_
    refine (leb_Uleb.calls 10 (-m) (U (-m)) _ (U_f (-m) 10 (by omega))).mono ?_
    rintro e wC2 ⟨xC2, rfl, hR, hB⟩
    refine ⟨_, rfl, ?_⟩
    obtain ⟨AC2, cC2, rfl⟩ := Kd.R_slice hR
    have HB_2 := am (below_then HB_1.out HB_1.out.size hB)
    have HX_2 := am (Kd.R_lower hR HB_1.out.size)
    have N_2_0 := am (own_ne HL_1.out hR).2
    have HL_2 := am (Own.below HL_1.out hB)
    clear hB hR
    refine hK.out _ _ (HSS.out _ HB_2.out) (fun _ => ?_)
    clear hK K
    refine norm_ (a' := ?_) ?_ ?_
    rotate_left
    ·
     show Act.put _ (some 93) _ = _
     simp only [pz]
     rfl
    refine one_ (i := 10) (N := some 94) (bm 13 2047) rfl rfl (by kernel_rfl) (by decide) (fun K hK => ?_)
    refine event_step (v := .slice (some ⟨wC2.heap.size, 0, none⟩) 1 1) (w1 := (wC2.alloc (.cells #[.slice AC2 (U (-m)).length cC2] 28))) rfl (by first | (go_simp; done) | (go_simp; rfl)) ?_
    have hB := below_alloc (Below.refl wC2.heap.size wC2) (.cells #[.slice AC2 (U (-m)).length cC2] 28)
    have HB_3 := am (below_then HB_2.out HB_2.out.size hB)
    have hg_3 := blk_new wC2 (.cells #[.slice AC2 (U (-m)).length cC2] 28)
    have HL_3 := am (Own.below HL_2.out hB)
    have HX_3_0 := am (Own.below HX_2.out hB)
    clear hB
    refine hK.out _ _ (HSS.out _ HB_3.out) (fun _ => ?_)
    clear hK K
    refine norm_ (a' := ?_) ?_ ?_
    rotate_left
    ·
     show Act.put _ (some 94) _ = _
     simp only [pz]
     rfl
    exact norm_ (by first | (simp only [putAll, Act.put, List.setIfInBounds_toArray, List.set_cons_zero, List.set_cons_succ]; done) | (simp only [putAll, Act.put, List.setIfInBounds_toArray, List.set_cons_zero, List.set_cons_succ]; rfl)) (hJ (vL1, (AC2, cC2), wC2.heap.size) _ ⟨HB_3.out, HL_3.out, ⟨HX_3_0.out, N_2_0.out⟩, hg_3⟩)
   skip
   refine call_ 38 #[.int .i64 (-m)] (by rfl) rfl (by go_simp; exact HQ.out) ?_
   refine (leb_Uleb.calls 10 (-m) (U (-m)) _ (U_f (-m) 10 (by omega))).mono ?_
   rintro e wC4 ⟨xC4, rfl, hR, hB⟩
   refine ⟨_, rfl, ?_⟩
   obtain ⟨AC4, cC4, rfl⟩ := Kd.R_slice hR
   have HB_4 := am (below_then HBp.out HBp.out.size hB)
   have HX_4 := am (Kd.R_lower hR HBp.out.size)
   clear hB hR
   refine hK.out _ _ (HSS.out _ HB_4.out) (fun _ => ?_)
   clear hK K
   refine norm_ (a' := ?_) ?_ ?_
   rotate_left
   ·
    show Act.put _ (some 93) _ = _
    simp only [pz]
    rfl
   refine two_ (i := 4) (j := 10) (Ni := some 88) (Nj := some 94) (bm 13 1023) (bm 13 2031) rfl rfl rfl rfl (by kernel_rfl) (by decide) (by decide) (fun K hK => ?_) (fun K hK => ?_)
   ·
    skip
    refine Kd.R_lit_step (Kd.int .u8) _ 5 ?hg (N := 88) ?hd (xs := ([IntKind.u8.wrap (128 + IntKind.u8.wrap r)] : List Int)) (inner := [.int .u8 (IntKind.u8.wrap (128 + IntKind.u8.wrap r))]) (ok := fun _ => True) (okp := fun _ => True) ?hr (Reps.one (show Kd.M (Kd.int .u8) _ _ _ (IntKind.u8.wrap (128 + IntKind.u8.wrap r)) [.int .u8 (IntKind.u8.wrap (128 + IntKind.u8.wrap r))] from rfl) (Reps.none _ _)) (fun _ hk => hk) trivial (Below.refl _ _) (Nat.le_refl _) (by simp) ?_; (case hd => rfl); (case hg => rfl); (case hr => first | (go_simp; done) | (go_simp; rfl))
    intro vL5 wL5 hR hB _ _
    have HB_5 := am (below_then HB_4.out HB_4.out.size hB)
    have HL_5 := am (Kd.R_lower hR HB_4.out.size)
    have N_5_0 := am (own_ne HX_4.out hR).1
    have HX_5_0 := am (Own.below HX_4.out hB)
    clear hB hR
    refine hK.out _ _ (HSS.out _ HB_5.out) (fun _ => ?_)
    clear hK K
    refine norm_ (a' := ?_) ?_ ?_
    rotate_left
    ·
     show Act.put _ (some 88) _ = _
     simp only [pz]
     rfl
    refine one_ (i := 10) (N := some 94) (bm 13 2047) rfl rfl (by kernel_rfl) (by decide) (fun K hK => ?_)
    refine event_step (v := .slice (some ⟨wL5.heap.size, 0, none⟩) 1 1) (w1 := (wL5.alloc (.cells #[.slice AC4 (U (-m)).length cC4] 28))) rfl (by first | (go_simp; done) | (go_simp; rfl)) ?_
    have hB := below_alloc (Below.refl wL5.heap.size wL5) (.cells #[.slice AC4 (U (-m)).length cC4] 28)
    have HB_6 := am (below_then HB_5.out HB_5.out.size hB)
    have hg_6 := blk_new wL5 (.cells #[.slice AC4 (U (-m)).length cC4] 28)
    have HL_6 := am (Own.below HL_5.out hB)
    have HX_6_0 := am (Own.below HX_5_0.out hB)
    clear hB
    refine hK.out _ _ (HSS.out _ HB_6.out) (fun _ => ?_)
    clear hK K
    refine norm_ (a' := ?_) ?_ ?_
    rotate_left
    ·
     show Act.put _ (some 94) _ = _
     simp only [pz]
     rfl
    exact norm_ (by first | (simp only [putAll, Act.put, List.setIfInBounds_toArray, List.set_cons_zero, List.set_cons_succ]; done) | (simp only [putAll, Act.put, List.setIfInBounds_toArray, List.set_cons_zero, List.set_cons_succ]; rfl)) (hJ (vL5, (AC4, cC4), wL5.heap.size) _ ⟨HB_6.out, HL_6.out, ⟨HX_6_0.out, N_5_0.out⟩, hg_6⟩)
   skip
   refine event_step (v := .slice (some ⟨wC4.heap.size, 0, none⟩) 1 1) (w1 := (wC4.alloc (.cells #[.slice AC4 (U (-m)).length cC4] 28))) rfl (by first | (go_simp; done) | (go_simp; rfl)) ?_
   have hB := below_alloc (Below.refl wC4.heap.size wC4) (.cells #[.slice AC4 (U (-m)).length cC4] 28)
   have HB_7 := am (below_then HB_4.out HB_4.out.size hB)
   have hg_7 := blk_new wC4 (.cells #[.slice AC4 (U (-m)).length cC4] 28)
   have HX_7_0 := am (Own.below HX_4.out hB)
   clear hB
   refine hK.out _ _ (HSS.out _ HB_7.out) (fun _ => ?_)
   clear hK K
   refine norm_ (a' := ?_) ?_ ?_
   rotate_left
   ·
    show Act.put _ (some 94) _ = _
    simp only [pz]
    rfl
   refine one_ (i := 4) (N := some 88) (bm 13 2047) rfl rfl (by kernel_rfl) (by decide) (fun K hK => ?_)
   refine Kd.R_lit_step (Kd.int .u8) _ 5 ?hg (N := 88) ?hd (xs := ([IntKind.u8.wrap (128 + IntKind.u8.wrap r)] : List Int)) (inner := [.int .u8 (IntKind.u8.wrap (128 + IntKind.u8.wrap r))]) (ok := fun _ => True) (okp := fun _ => True) ?hr (Reps.one (show Kd.M (Kd.int .u8) _ _ _ (IntKind.u8.wrap (128 + IntKind.u8.wrap r)) [.int .u8 (IntKind.u8.wrap (128 + IntKind.u8.wrap r))] from rfl) (Reps.none _ _)) (fun _ hk => hk) trivial (Below.refl _ _) (Nat.le_refl _) (by simp) ?_; (case hd => rfl); (case hg => rfl); (case hr => first | (go_simp; done) | (go_simp; rfl))
   intro vL8 wL8 hR hB _ _
   have HB_8 := am (below_then HB_7.out HB_7.out.size hB)
   have HL_8 := am (Kd.R_lower hR HB_7.out.size)
   have N_8_0 := am (own_ne HX_7_0.out hR).1
   have HX_8_0 := am (Own.below HX_7_0.out hB)
   have hg_8 := blk_below hg_7 hB
   clear hB hR
   refine hK.out _ _ (HSS.out _ HB_8.out) (fun _ => ?_)
   clear hK K
   refine norm_ (a' := ?_) ?_ ?_
   rotate_left
   ·
    show Act.put _ (some 88) _ = _
    simp only [pz]
    rfl
   exact norm_ (by first | (simp only [putAll, Act.put, List.setIfInBounds_toArray, List.set_cons_zero, List.set_cons_succ]; done) | (simp only [putAll, Act.put, List.setIfInBounds_toArray, List.set_cons_zero, List.set_cons_succ]; rfl)) (hJ (vL8, (AC4, cC4), wC4.heap.size) _ ⟨HB_8.out, HL_8.out, ⟨HX_8_0.out, N_8_0.out⟩, hg_8⟩)
  have hdd : decide (8 * m ≤ 0) = false := decide_eq_false hd
  have HSS : Aside0 (∀ u, Below w0.heap.size w0 u → u.cell? ⟨w.heap.size, 1, none⟩ = some (.int .i64 r) ∧ u.cell? ⟨w.heap.size, 2, none⟩ = some (.int .i64 (8 * m))) := ⟨fun u hu => ⟨(blk_cell (blk_below HG.out hu) 1).trans rfl, (blk_cell (blk_below HG.out hu) 2).trans rfl⟩⟩
  have HBp : Aside0 (Below w0.heap.size w0 w0.drew) := ⟨below_drew (Below.refl _ _)⟩
  go_upto_region 19 with fail
  clear y0
  refine start_ (n := 12) (S := fun u => u.cell? ⟨w.heap.size, 1, none⟩ = some (.int .i64 r) ∧ u.cell? ⟨w.heap.size, 2, none⟩ = some (.int .i64 (8 * m))) (ds := []) (bm 12 0) (by kernel_rfl) rfl rfl ?_ (fun hHeld => ?_)
  case refine_1 => exact HSS.out _ HBp.out
  refine pure_ (i := 1) (N := some 97) (v := ?_) (a' := ?_) (bm 12 2) rfl rfl (by kernel_rfl) (fun _ _ _ h => h) (Or.inl ⟨by rfl, ?_⟩) ?_ ?_
  rotate_left
  ·
   intro u
   go_simp
   with_reducible rfl
  rotate_left
  ·
   simp only [pz]
   rfl
  refine take_ (i := 2) (N := some 98) (v := ?_) (a' := ?_) (bm 12 6) rfl rfl (by kernel_rfl) (fun _ _ _ h => h) (Or.inl ⟨by rfl, ?_⟩) hHeld ?_ ?_
  rotate_left
  ·
   rintro u ⟨s1, s2⟩
   go_simp
   with_reducible rfl
  rotate_left
  ·
   simp only [pz]
   rfl
  refine pure_ (i := 4) (N := some 100) (v := ?_) (a' := ?_) (bm 12 22) rfl rfl (by kernel_rfl) (fun _ _ _ h => h) (Or.inl ⟨by rfl, ?_⟩) ?_ ?_
  rotate_left
  ·
   intro u
   go_simp
   with_reducible rfl
  rotate_left
  ·
   simp only [pz]
   rfl
  refine take_ (i := 5) (N := some 101) (v := ?_) (a' := ?_) (bm 12 54) rfl rfl (by kernel_rfl) (fun _ _ _ h => h) (Or.inl ⟨by rfl, ?_⟩) hHeld ?_ ?_
  rotate_left
  ·
   rintro u ⟨s1, s2⟩
   go_simp
   with_reducible rfl
  rotate_left
  ·
   simp only [pz]
   rfl
  refine pure_ (i := 6) (N := some 102) (v := ?_) (a' := ?_) (bm 12 118) rfl rfl (by kernel_rfl) (fun _ _ _ h => h) (Or.inl ⟨by rfl, ?_⟩) ?_ ?_
  rotate_left
  ·
   intro u
   go_simp
   with_reducible rfl
  rotate_left
  ·
   simp only [pz]
   rfl
  refine pure_ (i := 7) (N := some 103) (v := ?_) (a' := ?_) (bm 12 246) rfl rfl (by kernel_rfl) (fun _ _ _ h => h) (Or.inl ⟨by rfl, ?_⟩) ?_ ?_
  rotate_left
  ·
   intro u
   go_simp
   with_reducible rfl
  rotate_left
  ·
   simp only [pz]
   rfl
  clear hHeld y1 y2
  refine join_ (σ := Value × (Option Addr × Nat) × (Option Addr × Nat) × Nat) 2 (bm 12 1023) (fun s => [(96, s.1), (99, .slice s.2.1.1 (U r).length s.2.1.2), (104, .slice s.2.2.1.1 (slebL (-m)).length s.2.2.1.2), (105, .slice (some ⟨s.2.2.2, 0, none⟩) 2 2)]) (fun s W => Below w0.heap.size w0 W ∧ Own W w0.heap.size s.1 [17] ∧ (Own W w0.heap.size (.slice s.2.1.1 (U r).length s.2.1.2) (U r) ∧ ((.slice s.2.1.1 (U r).length s.2.1.2 : Value).ownBlock = none ∨ (.slice s.2.1.1 (U r).length s.2.1.2 : Value).ownBlock ≠ s.1.ownBlock)) ∧ (Own W w0.heap.size (.slice s.2.2.1.1 (slebL (-m)).length s.2.2.1.2) (slebL (-m)) ∧ ((.slice s.2.2.1.1 (slebL (-m)).length s.2.2.1.2 : Value).ownBlock = none ∨ (.slice s.2.2.1.1 (slebL (-m)).length s.2.2.1.2 : Value).ownBlock ≠ s.1.ownBlock)) ∧ W.heap[s.2.2.2]? = some (.cells #[.slice s.2.1.1 (U r).length s.2.1.2, .slice s.2.2.1.1 (slebL (-m)).length s.2.2.1.2] 28 (0, 0))) ?_ ?_
  ·
   rintro ⟨v3, ⟨A0, c0⟩, ⟨A1, c1⟩, g⟩ W ⟨f0, f1, ⟨p0, q0⟩, ⟨p1, q1⟩, fg⟩
   have F0 := am f0
   have F1 := am f1
   have FG := am fg
   have P0 := am (And.intro p0 q0)
   have P1 := am (And.intro p1 q1)
   clear f0 f1 fg p0 q0 p1 q1
   refine norm_ (a' := ?_) ?_ ?_
   rotate_left
   ·
    simp only [putAll, Act.put, List.setIfInBounds_toArray, List.set_cons_zero, List.set_cons_succ]
    rfl
   refine one_ (i := 10) (N := some 106) (bm 12 2047) rfl rfl (by kernel_rfl) (by decide) (fun K hK => ?_)
   refine call_ 79 #[v3, .slice (some ⟨g, 0, none⟩) 2 2] (by rfl) rfl (by go_simp) ?_
   refine (put2_calls (wb := w0) F1.out P0.out.1 P1.out.1 P0.out.2 P1.out.2 FG.out (by simp) (by omega) (by omega) F0.out).mono ?_
   rintro e w6 ⟨v6, rfl, hR6, hB6⟩
   refine ⟨_, rfl, ?_⟩
   have HB6 := am hB6
   refine hK.out _ _ (HSS.out _ hB6) (fun _ => ?_)
   clear hK K hB6
   refine norm_ (a' := ?_) ?_ ?_
   rotate_left
   ·
    show Act.put _ (some 106) _ = _
    simp only [pz]
    rfl
   refine pure_ (i := 11) (N := some 2) (v := ?_) (a' := ?_) (bm 12 4095) rfl rfl (by kernel_rfl) (fun _ _ _ h => h) (Or.inl ⟨by rfl, ?_⟩) ?_ ?_
   rotate_left
   ·
    intro u
    go_simp
    with_reducible rfl
   rotate_left
   ·
    simp only [pz]
    rfl
   refine done_ (by kernel_rfl) ?_
   go_wp2
   go_ret
   refine ⟨_, rfl, Kd.R_lower (show Own _ _ _ (opB 5 r (8 * m)) from ?_) HB0.out.size, below_then HB0.out HB0.out.size HB6.out⟩
   rw [show opB 5 r (8 * m) = [17] ++ U r ++ slebL (-(8 * m / 8)) from if_neg (show ¬ 8 * m ≤ 0 by omega), HE.out]
   exact hR6
  intro hJ
  refine two_ (i := 0) (j := 3) (Ni := some 96) (Nj := some 99) (bm 12 247) (bm 12 254) rfl rfl rfl rfl (by kernel_rfl) (by decide) (by decide) (fun K hK => ?_) (fun K hK => ?_)
  ·
   skip
   refine Kd.R_lit_step (Kd.int .u8) _ 5 ?hg (N := 96) ?hd (xs := ([17] : List Int)) (inner := [.int .u8 (17)]) (ok := fun _ => True) (okp := fun _ => True) ?hr (Reps.one (show Kd.M (Kd.int .u8) _ _ _ (17) [.int .u8 (17)] from rfl) (Reps.none _ _)) (fun _ hk => hk) trivial (Below.refl _ _) (Nat.le_refl _) (by simp) ?_; (case hd => rfl); (case hg => rfl); (case hr => first | (go_simp; done) | (go_simp; rfl))
   intro vL1 wL1 hR hB _ _
   have HB_1 := am (below_then HBp.out HBp.out.size hB)
   have HL_1 := am (Kd.R_lower hR HBp.out.size)
   clear hB hR
   refine hK.out _ _ (HSS.out _ HB_1.out) (fun _ => ?_)
   clear hK K
   refine norm_ (a' := ?_) ?_ ?_
   rotate_left
   ·
    show Act.put _ (some 96) _ = _
    simp only [pz]
    rfl
   refine one_ (i := 3) (N := some 99) (bm 12 255) rfl rfl (by kernel_rfl) (by decide) (fun K hK => ?_)
   refine call_ 38 #[.int .i64 r] (by rfl) rfl (by go_simp) ?_
   refine (leb_Uleb.calls 10 (r) (U (r)) _ (U_f (r) 10 (by omega))).mono ?_
   rintro e wC2 ⟨xC2, rfl, hR, hB⟩
   refine ⟨_, rfl, ?_⟩
   obtain ⟨AC2, cC2, rfl⟩ := Kd.R_slice hR
   have HB_2 := am (below_then HB_1.out HB_1.out.size hB)
   have HX_2 := am (Kd.R_lower hR HB_1.out.size)
   have N_2_0 := am (own_ne HL_1.out hR).2
   have HL_2 := am (Own.below HL_1.out hB)
   clear hB hR
   refine hK.out _ _ (HSS.out _ HB_2.out) (fun _ => ?_)
   clear hK K
   refine norm_ (a' := ?_) ?_ ?_
   rotate_left
   ·
    show Act.put _ (some 99) _ = _
    simp only [pz]
    rfl
   refine one_ (i := 8) (N := some 104) (bm 12 511) rfl rfl (by kernel_rfl) (by decide) (fun K hK => ?_)
   refine call_ 37 #[.int .i64 (-m)] (by rfl) rfl (by go_simp; exact HQ.out) ?_
   refine (leb_Sleb.calls 10 (-m) (slebL (-m)) _ (sleb_f (-m) (by omega) (by omega) 10 (by omega))).mono ?_
   rintro e wC3 ⟨xC3, rfl, hR, hB⟩
   refine ⟨_, rfl, ?_⟩
   obtain ⟨AC3, cC3, rfl⟩ := Kd.R_slice hR
   have HB_3 := am (below_then HB_2.out HB_2.out.size hB)
   have HX_3 := am (Kd.R_lower hR HB_2.out.size)
   have N_3_1 := am (own_ne HL_2.out hR).2
   have HL_3 := am (Own.below HL_2.out hB)
   have HX_3_0 := am (Own.below HX_2.out hB)
   clear hB hR
   refine hK.out _ _ (HSS.out _ HB_3.out) (fun _ => ?_)
   clear hK K
   refine norm_ (a' := ?_) ?_ ?_
   rotate_left
   ·
    show Act.put _ (some 104) _ = _
    simp only [pz]
    rfl
   refine one_ (i := 9) (N := some 105) (bm 12 1023) rfl rfl (by kernel_rfl) (by decide) (fun K hK => ?_)
   refine event_step (v := .slice (some ⟨wC3.heap.size, 0, none⟩) 2 2) (w1 := (wC3.alloc (.cells #[.slice AC2 (U r).length cC2, .slice AC3 (slebL (-m)).length cC3] 28))) rfl (by first | (go_simp; done) | (go_simp; rfl)) ?_
   have hB := below_alloc (Below.refl wC3.heap.size wC3) (.cells #[.slice AC2 (U r).length cC2, .slice AC3 (slebL (-m)).length cC3] 28)
   have HB_4 := am (below_then HB_3.out HB_3.out.size hB)
   have hg_4 := blk_new wC3 (.cells #[.slice AC2 (U r).length cC2, .slice AC3 (slebL (-m)).length cC3] 28)
   have HL_4 := am (Own.below HL_3.out hB)
   have HX_4_0 := am (Own.below HX_3_0.out hB)
   have HX_4_1 := am (Own.below HX_3.out hB)
   clear hB
   refine hK.out _ _ (HSS.out _ HB_4.out) (fun _ => ?_)
   clear hK K
   refine norm_ (a' := ?_) ?_ ?_
   rotate_left
   ·
    show Act.put _ (some 105) _ = _
    simp only [pz]
    rfl
   exact norm_ (by first | (simp only [putAll, Act.put, List.setIfInBounds_toArray, List.set_cons_zero, List.set_cons_succ]; done) | (simp only [putAll, Act.put, List.setIfInBounds_toArray, List.set_cons_zero, List.set_cons_succ]; rfl)) (hJ (vL1, (AC2, cC2), (AC3, cC3), wC3.heap.size) _ ⟨HB_4.out, HL_4.out, ⟨HX_4_0.out, N_2_0.out⟩, ⟨HX_4_1.out, N_3_1.out⟩, hg_4⟩)
  skip
  refine call_ 38 #[.int .i64 r] (by rfl) rfl (by go_simp) ?_
  refine (leb_Uleb.calls 10 (r) (U (r)) _ (U_f (r) 10 (by omega))).mono ?_
  rintro e wC5 ⟨xC5, rfl, hR, hB⟩
  refine ⟨_, rfl, ?_⟩
  obtain ⟨AC5, cC5, rfl⟩ := Kd.R_slice hR
  have HB_5 := am (below_then HBp.out HBp.out.size hB)
  have HX_5 := am (Kd.R_lower hR HBp.out.size)
  clear hB hR
  refine hK.out _ _ (HSS.out _ HB_5.out) (fun _ => ?_)
  clear hK K
  refine norm_ (a' := ?_) ?_ ?_
  rotate_left
  ·
   show Act.put _ (some 99) _ = _
   simp only [pz]
   rfl
  refine two_ (i := 0) (j := 8) (Ni := some 96) (Nj := some 104) (bm 12 255) (bm 12 510) rfl rfl rfl rfl (by kernel_rfl) (by decide) (by decide) (fun K hK => ?_) (fun K hK => ?_)
  ·
   skip
   refine Kd.R_lit_step (Kd.int .u8) _ 5 ?hg (N := 96) ?hd (xs := ([17] : List Int)) (inner := [.int .u8 (17)]) (ok := fun _ => True) (okp := fun _ => True) ?hr (Reps.one (show Kd.M (Kd.int .u8) _ _ _ (17) [.int .u8 (17)] from rfl) (Reps.none _ _)) (fun _ hk => hk) trivial (Below.refl _ _) (Nat.le_refl _) (by simp) ?_; (case hd => rfl); (case hg => rfl); (case hr => first | (go_simp; done) | (go_simp; rfl))
   intro vL6 wL6 hR hB _ _
   have HB_6 := am (below_then HB_5.out HB_5.out.size hB)
   have HL_6 := am (Kd.R_lower hR HB_5.out.size)
   have N_6_0 := am (own_ne HX_5.out hR).1
   have HX_6_0 := am (Own.below HX_5.out hB)
   clear hB hR
   refine hK.out _ _ (HSS.out _ HB_6.out) (fun _ => ?_)
   clear hK K
   refine norm_ (a' := ?_) ?_ ?_
   rotate_left
   ·
    show Act.put _ (some 96) _ = _
    simp only [pz]
    rfl
   refine one_ (i := 8) (N := some 104) (bm 12 511) rfl rfl (by kernel_rfl) (by decide) (fun K hK => ?_)
   refine call_ 37 #[.int .i64 (-m)] (by rfl) rfl (by go_simp; exact HQ.out) ?_
   refine (leb_Sleb.calls 10 (-m) (slebL (-m)) _ (sleb_f (-m) (by omega) (by omega) 10 (by omega))).mono ?_
   rintro e wC7 ⟨xC7, rfl, hR, hB⟩
   refine ⟨_, rfl, ?_⟩
   obtain ⟨AC7, cC7, rfl⟩ := Kd.R_slice hR
   have HB_7 := am (below_then HB_6.out HB_6.out.size hB)
   have HX_7 := am (Kd.R_lower hR HB_6.out.size)
   have N_7_1 := am (own_ne HL_6.out hR).2
   have HL_7 := am (Own.below HL_6.out hB)
   have HX_7_0 := am (Own.below HX_6_0.out hB)
   clear hB hR
   refine hK.out _ _ (HSS.out _ HB_7.out) (fun _ => ?_)
   clear hK K
   refine norm_ (a' := ?_) ?_ ?_
   rotate_left
   ·
    show Act.put _ (some 104) _ = _
    simp only [pz]
    rfl
   refine one_ (i := 9) (N := some 105) (bm 12 1023) rfl rfl (by kernel_rfl) (by decide) (fun K hK => ?_)
   refine event_step (v := .slice (some ⟨wC7.heap.size, 0, none⟩) 2 2) (w1 := (wC7.alloc (.cells #[.slice AC5 (U r).length cC5, .slice AC7 (slebL (-m)).length cC7] 28))) rfl (by first | (go_simp; done) | (go_simp; rfl)) ?_
   have hB := below_alloc (Below.refl wC7.heap.size wC7) (.cells #[.slice AC5 (U r).length cC5, .slice AC7 (slebL (-m)).length cC7] 28)
   have HB_8 := am (below_then HB_7.out HB_7.out.size hB)
   have hg_8 := blk_new wC7 (.cells #[.slice AC5 (U r).length cC5, .slice AC7 (slebL (-m)).length cC7] 28)
   have HL_8 := am (Own.below HL_7.out hB)
   have HX_8_0 := am (Own.below HX_7_0.out hB)
   have HX_8_1 := am (Own.below HX_7.out hB)
   clear hB
   refine hK.out _ _ (HSS.out _ HB_8.out) (fun _ => ?_)
   clear hK K
   refine norm_ (a' := ?_) ?_ ?_
   rotate_left
   ·
    show Act.put _ (some 105) _ = _
    simp only [pz]
    rfl
   exact norm_ (by first | (simp only [putAll, Act.put, List.setIfInBounds_toArray, List.set_cons_zero, List.set_cons_succ]; done) | (simp only [putAll, Act.put, List.setIfInBounds_toArray, List.set_cons_zero, List.set_cons_succ]; rfl)) (hJ (vL6, (AC5, cC5), (AC7, cC7), wC7.heap.size) _ ⟨HB_8.out, HL_8.out, ⟨HX_8_0.out, N_6_0.out⟩, ⟨HX_8_1.out, N_7_1.out⟩, hg_8⟩)
  skip
  refine call_ 37 #[.int .i64 (-m)] (by rfl) rfl (by go_simp; exact HQ.out) ?_
  refine (leb_Sleb.calls 10 (-m) (slebL (-m)) _ (sleb_f (-m) (by omega) (by omega) 10 (by omega))).mono ?_
  rintro e wC9 ⟨xC9, rfl, hR, hB⟩
  refine ⟨_, rfl, ?_⟩
  obtain ⟨AC9, cC9, rfl⟩ := Kd.R_slice hR
  have HB_9 := am (below_then HB_5.out HB_5.out.size hB)
  have HX_9 := am (Kd.R_lower hR HB_5.out.size)
  have HX_9_0 := am (Own.below HX_5.out hB)
  clear hB hR
  refine hK.out _ _ (HSS.out _ HB_9.out) (fun _ => ?_)
  clear hK K
  refine norm_ (a' := ?_) ?_ ?_
  rotate_left
  ·
   show Act.put _ (some 104) _ = _
   simp only [pz]
   rfl
  refine two_ (i := 0) (j := 9) (Ni := some 96) (Nj := some 105) (bm 12 511) (bm 12 1022) rfl rfl rfl rfl (by kernel_rfl) (by decide) (by decide) (fun K hK => ?_) (fun K hK => ?_)
  ·
   skip
   refine Kd.R_lit_step (Kd.int .u8) _ 5 ?hg (N := 96) ?hd (xs := ([17] : List Int)) (inner := [.int .u8 (17)]) (ok := fun _ => True) (okp := fun _ => True) ?hr (Reps.one (show Kd.M (Kd.int .u8) _ _ _ (17) [.int .u8 (17)] from rfl) (Reps.none _ _)) (fun _ hk => hk) trivial (Below.refl _ _) (Nat.le_refl _) (by simp) ?_; (case hd => rfl); (case hg => rfl); (case hr => first | (go_simp; done) | (go_simp; rfl))
   intro vL10 wL10 hR hB _ _
   have HB_10 := am (below_then HB_9.out HB_9.out.size hB)
   have HL_10 := am (Kd.R_lower hR HB_9.out.size)
   have N_10_0 := am (own_ne HX_9_0.out hR).1
   have N_10_1 := am (own_ne HX_9.out hR).1
   have HX_10_0 := am (Own.below HX_9_0.out hB)
   have HX_10_1 := am (Own.below HX_9.out hB)
   clear hB hR
   refine hK.out _ _ (HSS.out _ HB_10.out) (fun _ => ?_)
   clear hK K
   refine norm_ (a' := ?_) ?_ ?_
   rotate_left
   ·
    show Act.put _ (some 96) _ = _
    simp only [pz]
    rfl
   refine one_ (i := 9) (N := some 105) (bm 12 1023) rfl rfl (by kernel_rfl) (by decide) (fun K hK => ?_)
   refine event_step (v := .slice (some ⟨wL10.heap.size, 0, none⟩) 2 2) (w1 := (wL10.alloc (.cells #[.slice AC5 (U r).length cC5, .slice AC9 (slebL (-m)).length cC9] 28))) rfl (by first | (go_simp; done) | (go_simp; rfl)) ?_
   have hB := below_alloc (Below.refl wL10.heap.size wL10) (.cells #[.slice AC5 (U r).length cC5, .slice AC9 (slebL (-m)).length cC9] 28)
   have HB_11 := am (below_then HB_10.out HB_10.out.size hB)
   have hg_11 := blk_new wL10 (.cells #[.slice AC5 (U r).length cC5, .slice AC9 (slebL (-m)).length cC9] 28)
   have HL_11 := am (Own.below HL_10.out hB)
   have HX_11_0 := am (Own.below HX_10_0.out hB)
   have HX_11_1 := am (Own.below HX_10_1.out hB)
   clear hB
   refine hK.out _ _ (HSS.out _ HB_11.out) (fun _ => ?_)
   clear hK K
   refine norm_ (a' := ?_) ?_ ?_
   rotate_left
   ·
    show Act.put _ (some 105) _ = _
    simp only [pz]
    rfl
   exact norm_ (by first | (simp only [putAll, Act.put, List.setIfInBounds_toArray, List.set_cons_zero, List.set_cons_succ]; done) | (simp only [putAll, Act.put, List.setIfInBounds_toArray, List.set_cons_zero, List.set_cons_succ]; rfl)) (hJ (vL10, (AC5, cC5), (AC9, cC9), wL10.heap.size) _ ⟨HB_11.out, HL_11.out, ⟨HX_11_0.out, N_10_0.out⟩, ⟨HX_11_1.out, N_10_1.out⟩, hg_11⟩)
  skip
  refine event_step (v := .slice (some ⟨wC9.heap.size, 0, none⟩) 2 2) (w1 := (wC9.alloc (.cells #[.slice AC5 (U r).length cC5, .slice AC9 (slebL (-m)).length cC9] 28))) rfl (by first | (go_simp; done) | (go_simp; rfl)) ?_
  have hB := below_alloc (Below.refl wC9.heap.size wC9) (.cells #[.slice AC5 (U r).length cC5, .slice AC9 (slebL (-m)).length cC9] 28)
  have HB_12 := am (below_then HB_9.out HB_9.out.size hB)
  have hg_12 := blk_new wC9 (.cells #[.slice AC5 (U r).length cC5, .slice AC9 (slebL (-m)).length cC9] 28)
  have HX_12_0 := am (Own.below HX_9_0.out hB)
  have HX_12_1 := am (Own.below HX_9.out hB)
  clear hB
  refine hK.out _ _ (HSS.out _ HB_12.out) (fun _ => ?_)
  clear hK K
  refine norm_ (a' := ?_) ?_ ?_
  rotate_left
  ·
   show Act.put _ (some 105) _ = _
   simp only [pz]
   rfl
  refine one_ (i := 0) (N := some 96) (bm 12 1023) rfl rfl (by kernel_rfl) (by decide) (fun K hK => ?_)
  refine Kd.R_lit_step (Kd.int .u8) _ 5 ?hg (N := 96) ?hd (xs := ([17] : List Int)) (inner := [.int .u8 (17)]) (ok := fun _ => True) (okp := fun _ => True) ?hr (Reps.one (show Kd.M (Kd.int .u8) _ _ _ (17) [.int .u8 (17)] from rfl) (Reps.none _ _)) (fun _ hk => hk) trivial (Below.refl _ _) (Nat.le_refl _) (by simp) ?_; (case hd => rfl); (case hg => rfl); (case hr => first | (go_simp; done) | (go_simp; rfl))
  intro vL13 wL13 hR hB _ _
  have HB_13 := am (below_then HB_12.out HB_12.out.size hB)
  have HL_13 := am (Kd.R_lower hR HB_12.out.size)
  have N_13_0 := am (own_ne HX_12_0.out hR).1
  have N_13_1 := am (own_ne HX_12_1.out hR).1
  have HX_13_0 := am (Own.below HX_12_0.out hB)
  have HX_13_1 := am (Own.below HX_12_1.out hB)
  have hg_13 := blk_below hg_12 hB
  clear hB hR
  refine hK.out _ _ (HSS.out _ HB_13.out) (fun _ => ?_)
  clear hK K
  refine norm_ (a' := ?_) ?_ ?_
  rotate_left
  ·
   show Act.put _ (some 96) _ = _
   simp only [pz]
   rfl
  exact norm_ (by first | (simp only [putAll, Act.put, List.setIfInBounds_toArray, List.set_cons_zero, List.set_cons_succ]; done) | (simp only [putAll, Act.put, List.setIfInBounds_toArray, List.set_cons_zero, List.set_cons_succ]; rfl)) (hJ (vL13, (AC5, cC5), (AC9, cC9), wC9.heap.size) _ ⟨HB_13.out, HL_13.out, ⟨HX_13_0.out, N_13_0.out⟩, ⟨HX_13_1.out, N_13_1.out⟩, hg_13⟩)
 ·
  obtain ⟨h0, h1⟩ := may6 HM.out
  go_wp2_with ((with_reducible refine gate_dst (N := 113) rfl ?_); refine stopB ?stop)
  case stop =>
   unfold StopB
   refine Kd.R_lit (Kd.int .u8) _ 5 ?hg (N := 113) ?hd (xs := ([192 + r] : List Int)) (inner := [.int .u8 (192 + r)]) (ok := fun _ => True) (okp := fun _ => True) ?hr (Reps.one (show Kd.M (Kd.int .u8) _ _ _ (192 + r) [.int .u8 (192 + r)] from rfl) (Reps.none _ _)) (fun _ hk => hk) trivial (Below.refl _ _) (Nat.le_refl _) (by simp) ?_
   case hd => rfl
   case hg => rfl
   case hr => first | (go_simp; done) | (go_simp; rfl)
   intro v3 w3 hR3 hB3 _ _
   go_wp2
   go_ret
   exact ⟨_, rfl, Kd.R_lower (by rw [show opB 6 r n = [(192 + r) % 256] from rfl, show (192 + r) % 256 = 192 + r by omega]; exact hR3) HB0.out.size, below_then HB0.out HB0.out.size hB3⟩
 ·
  skip
  go_wp2_with ((with_reducible refine gate_dst (N := 116) rfl ?_); refine stopB ?stop)
  case stop =>
   unfold StopB
   refine Kd.R_lit (Kd.int .u8) _ 5 ?hg (N := 116) ?hd (xs := ([7] : List Int)) (inner := [.int .u8 (7)]) (ok := fun _ => True) (okp := fun _ => True) ?hr (Reps.one (show Kd.M (Kd.int .u8) _ _ _ (7) [.int .u8 (7)] from rfl) (Reps.none _ _)) (fun _ hk => hk) trivial (Below.refl _ _) (Nat.le_refl _) (by simp) ?_
   case hd => rfl
   case hg => rfl
   case hr => first | (go_simp; done) | (go_simp; rfl)
   intro v3 w3 hR3 hB3 _ _
   have HV := am (Kd.R_lower hR3 (Nat.le_refl _))
   have z1 : w3.cell? ⟨w.heap.size, 1, none⟩ = some (.int .i64 r) := (blk_cell (blk_below HG.out hB3) 1).trans rfl
   have HB3 := am hB3
   clear hB3 y0 y1 y2 hR3
   go_wp2_with fail
   refine (leb_Uleb.calls 10 r (U r) w3 (U_f r 10 (by omega))).mono ?_
   rintro e w4 ⟨v4, rfl, hR4, hB4⟩
   have HN := am (own_ne HV.out hR4).2
   have HV4 := am (Own.below HV.out hB4)
   have HB4 := am (below_then HB3.out HB3.out.size hB4)
   have HX := am (Kd.R_lower hR4 HB3.out.size)
   obtain ⟨A4, c4, rfl⟩ := Kd.R_slice hR4
   clear hR4 hB4
   go_wp2_with fail
   have hG5 := blk_new w4 (.cells #[.slice A4 (U r).length c4] 28)
   have hB5 := below_alloc (Below.refl w4.heap.size w4) (.cells #[.slice A4 (U r).length c4] 28)
   obtain ⟨w5, hw5⟩ : ∃ w5, w5 = w4.alloc (.cells #[.slice A4 (U r).length c4] 28) := ⟨_, rfl⟩
   rw [← hw5] at hG5 hB5 ⊢
   refine (put1_calls (wb := w0) (Own.below HV4.out hB5) (Own.below HX.out hB5) HN.out hG5 (by simp) (by omega) (below_then HB4.out HB4.out.size hB5)).mono ?_
   rintro e w6 ⟨u, rfl, hR6, hB6⟩
   go_wp2
   go_ret
   exact ⟨_, rfl, Kd.R_lower (show Own _ _ _ (opB 7 r n) from hR6) HB0.out.size, below_then HB0.out HB0.out.size hB6⟩
 ·
  skip
  go_wp2_with ((with_reducible refine gate_dst (N := 124) rfl ?_); refine stopB ?stop)
  case stop =>
   unfold StopB
   refine Kd.R_lit (Kd.int .u8) _ 5 ?hg (N := 124) ?hd (xs := ([8] : List Int)) (inner := [.int .u8 (8)]) (ok := fun _ => True) (okp := fun _ => True) ?hr (Reps.one (show Kd.M (Kd.int .u8) _ _ _ (8) [.int .u8 (8)] from rfl) (Reps.none _ _)) (fun _ hk => hk) trivial (Below.refl _ _) (Nat.le_refl _) (by simp) ?_
   case hd => rfl
   case hg => rfl
   case hr => first | (go_simp; done) | (go_simp; rfl)
   intro v3 w3 hR3 hB3 _ _
   have HV := am (Kd.R_lower hR3 (Nat.le_refl _))
   have z1 : w3.cell? ⟨w.heap.size, 1, none⟩ = some (.int .i64 r) := (blk_cell (blk_below HG.out hB3) 1).trans rfl
   have HB3 := am hB3
   clear hB3 y0 y1 y2 hR3
   go_wp2_with fail
   refine (leb_Uleb.calls 10 r (U r) w3 (U_f r 10 (by omega))).mono ?_
   rintro e w4 ⟨v4, rfl, hR4, hB4⟩
   have HN := am (own_ne HV.out hR4).2
   have HV4 := am (Own.below HV.out hB4)
   have HB4 := am (below_then HB3.out HB3.out.size hB4)
   have HX := am (Kd.R_lower hR4 HB3.out.size)
   obtain ⟨A4, c4, rfl⟩ := Kd.R_slice hR4
   clear hR4 hB4
   go_wp2_with fail
   have hG5 := blk_new w4 (.cells #[.slice A4 (U r).length c4] 28)
   have hB5 := below_alloc (Below.refl w4.heap.size w4) (.cells #[.slice A4 (U r).length c4] 28)
   obtain ⟨w5, hw5⟩ : ∃ w5, w5 = w4.alloc (.cells #[.slice A4 (U r).length c4] 28) := ⟨_, rfl⟩
   rw [← hw5] at hG5 hB5 ⊢
   refine (put1_calls (wb := w0) (Own.below HV4.out hB5) (Own.below HX.out hB5) HN.out hG5 (by simp) (by omega) (below_then HB4.out HB4.out.size hB5)).mono ?_
   rintro e w6 ⟨u, rfl, hR6, hB6⟩
   go_wp2
   go_ret
   exact ⟨_, rfl, Kd.R_lower (show Own _ _ _ (opB 8 r n) from hR6) HB0.out.size, below_then HB0.out HB0.out.size hB6⟩
 ·
  skip
  go_wp2_with ((with_reducible refine gate_dst (N := 132) rfl ?_); refine stopB ?stop)
  case stop =>
   unfold StopB
   refine Kd.R_lit (Kd.int .u8) _ 5 ?hg (N := 132) ?hd (xs := ([10] : List Int)) (inner := [.int .u8 (10)]) (ok := fun _ => True) (okp := fun _ => True) ?hr (Reps.one (show Kd.M (Kd.int .u8) _ _ _ (10) [.int .u8 (10)] from rfl) (Reps.none _ _)) (fun _ hk => hk) trivial (Below.refl _ _) (Nat.le_refl _) (by simp) ?_
   case hd => rfl
   case hg => rfl
   case hr => first | (go_simp; done) | (go_simp; rfl)
   intro v3 w3 hR3 hB3 _ _
   go_wp2
   go_ret
   exact ⟨_, rfl, Kd.R_lower (by rw [show opB 9 r n = [10] from rfl]; exact hR3) HB0.out.size, below_then HB0.out HB0.out.size hB3⟩
 skip
 go_wp2_with ((with_reducible refine gate_dst (N := 135) rfl ?_); refine stopB ?stop)
 case stop =>
  unfold StopB
  refine Kd.R_lit (Kd.int .u8) _ 5 ?hg (N := 135) ?hd (xs := ([11] : List Int)) (inner := [.int .u8 (11)]) (ok := fun _ => True) (okp := fun _ => True) ?hr (Reps.one (show Kd.M (Kd.int .u8) _ _ _ (11) [.int .u8 (11)] from rfl) (Reps.none _ _)) (fun _ hk => hk) trivial (Below.refl _ _) (Nat.le_refl _) (by simp) ?_
  case hd => rfl
  case hg => rfl
  case hr => first | (go_simp; done) | (go_simp; rfl)
  intro v3 w3 hR3 hB3 _ _
  go_wp2
  go_ret
  exact ⟨_, rfl, Kd.R_lower (by rw [show opB 10 r n = [11] from rfl]; exact hR3) HB0.out.size, below_then HB0.out HB0.out.size hB3⟩
end Go.Proofs.Ytfgfnflhdabmcaa.CfaB
end
section
namespace Go.Proofs.Ytfgfnflhdabmcaa.G
open Go.RowKit Go.Proofs.YtfgfnflhdabmcaaW.PrintWords Go.Proofs.YtfgfnflhdabmcaaW.PrintLast Go.Proofs.YtfgfnflhdabmcaaW.PrintMore
attribute [local go_sem] max2_int min2_int max_two min_two max_three min_three max_four min_four
def cfa_Op_bytes.f (k : Nat) (a0_0 a0_1 a0_2 : Int) : Option (List Int) := if mayF a0_0 a0_1 a0_2 = true then some (CfaB.opB a0_0 a0_1 a0_2) else none
theorem cfa_Op_bytes.mono : ∀ a0 a1 a2 k, LeO (cfa_Op_bytes.f k a0 a1 a2) (cfa_Op_bytes.f (k + 1) a0 a1 a2) := fun _ _ _ _ => LeO.refl _
theorem cfa_Op_bytes.calls (k : Nat) (a0_0 : Int) (a0_1 : Int) (a0_2 : Int) (r : List Int) (w : World) (h : cfa_Op_bytes.f k a0_0 a0_1 a0_2 = some r) :
    Calls Try.prog 59 #[.agg #[.int .i64 a0_0, .int .i64 a0_1, .int .i64 a0_2]] w fun e w' => ∃ v0_ : Value, e = .returned (v0_) ∧ Kd.R (Kd.int .u8) 5 w' w.heap.size (fun _ => True) v0_ r ∧ Below w.heap.size w w' := by
 unfold cfa_Op_bytes.f at h
 split at h
 case isFalse => cases h
 rename_i hb
 obtain rfl := Option.some.inj h
 exact CfaB.bytes_calls a0_0 a0_1 a0_2 hb w
def cfa_Write.l0 : Nat → List Int → List (S105) → Int → Int → Option (List Int × Int)
  | 0, _, _, _, _ => none
  | k + 1, x4, x10, x11, x12 => if x12 < x11 then (if 0 ≤ x12 then (if x12 < (x10.length : Int) then ((cfa_Op_may.f ((rd_T105 x10 x12).f0) ((rd_T105 x10 x12).f1) ((rd_T105 x10 x12).f2)).bind fun t103 => (if t103 = true then ((cfa_Op_bytes.f k ((rd_T105 x10 x12).f0) ((rd_T105 x10 x12).f1) ((rd_T105 x10 x12).f2)).bind fun t104 => (if x4.length + t104.length < 140737488355328 then (cfa_Write.l0 k (x4 ++ t104) x10 x11 (wrap64 (x12 + 1))) else (none))) else (some (([] : List Int), 130)))) else (none)) else (none)) else (some (x4, 0))
def cfa_Write.f (k : Nat) (l0 : List (S105)) : Option (List Int × Int) := if (l0.length : Int) > 4000 then (some (([] : List Int), 6)) else (cfa_Write.l0 k ([] : List Int) l0 (l0.length : Int) 0)
theorem cfa_Write.mono_l : ∀ k, (∀ y0 y1 y2 y3, LeO (cfa_Write.l0 k y0 y1 y2 y3) (cfa_Write.l0 (k + 1) y0 y1 y2 y3))
  | 0 => fun _ _ _ _ r h => by simp [cfa_Write.l0] at h
  | k + 1 => by
    have ih0 := cfa_Write.mono_l k
    · intro y0 y1 y2 y3
      unfold cfa_Write.l0
      repeat' first
      | (with_reducible exact ih0 _ _ _ _)
      | (with_reducible exact cfa_Op_bytes.mono _ _ _ _)
      | (with_reducible exact LeO.refl _)
      | (with_reducible exact LeO.none _)
      | (with_reducible refine LeO.ite ?_ ?_)
      | (with_reducible refine LeO.bind ?_ (fun _ => ?_))
      | exact ih0 _ _ _ _
      | exact cfa_Op_bytes.mono _ _ _ _
      | exact LeO.none _
      | refine LeO.ite ?_ ?_
      | refine LeO.bind ?_ (fun _ => ?_)
theorem cfa_Write.mono : ∀ a0 k, LeO (cfa_Write.f k a0) (cfa_Write.f (k + 1) a0) := by
 intro a0 k
 have ih0 := cfa_Write.mono_l k
 unfold cfa_Write.f
 repeat' first
     | (with_reducible exact ih0 _ _ _ _)
     | (with_reducible exact cfa_Op_bytes.mono _ _ _ _)
     | (with_reducible exact LeO.refl _)
     | (with_reducible exact LeO.none _)
     | (with_reducible refine LeO.ite ?_ ?_)
     | (with_reducible refine LeO.bind ?_ (fun _ => ?_))
     | exact ih0 _ _ _ _
     | exact cfa_Op_bytes.mono _ _ _ _
     | exact LeO.none _
     | refine LeO.ite ?_ ?_
     | refine LeO.bind ?_ (fun _ => ?_)
set_option maxHeartbeats 8000000 in
theorem cfa_Write.calls (k : Nat) (A0 : Option Addr) (c0 : Nat) (l0 : List (S105)) (r1 : List Int) (r2 : Int) (w : World) (hr0 : Kd.C k105 w A0 l0.length l0) (hc0 : l0.length ≤ c0) (h : cfa_Write.f k l0 = some (r1, r2)) :
    Calls Try.prog 23 #[.slice A0 l0.length c0] w fun e w' => ∃ v0_ : Value, e = .returned (.tuple #[v0_, .int .i64 r2]) ∧ Kd.R (Kd.int .u8) 5 w' w.heap.size (fun _ => True) v0_ r1 ∧ Below w.heap.size w w' := by
 have hu105 := Try.underlying105
 have HR0 := am hr0
 have HC0 := am hc0
 clear hr0 hc0
 have HB := am (Below.refl w.heap.size w)
 have H : (if (l0.length : Int) > 4000 then (some (([] : List Int), 6)) else (cfa_Write.l0 k ([] : List Int) l0 (l0.length : Int) 0)) = some (r1, r2) := h
 clear h
 by_cases c2 : (l0.length : Int) > 4000
 ·
  rw [if_pos c2] at H
  have c2b0 : decide (4000 < (l0.length : Int)) = true := decide_eq_true c2
  have c2b1 : decide (4000 < l0.length) = true := decide_eq_true (by omega)
  clear c2
  simp only [Option.some.injEq, Prod.mk.injEq] at H
  obtain ⟨rfl, rfl⟩ := H
  go_enter Try.func23, Try.ntmps23
  go_wp2
  go_ret2
  exact ⟨_, rfl, by first | exact Kd.R_nil _ _ _ _ _ | exact Kd.N_nil _ _ _ _ _, by exact bl_g HB.out⟩
 rw [if_neg c2] at H
 have c2b0 : decide (4000 < (l0.length : Int)) = false := decide_eq_false c2
 have c2b1 : decide (4000 < l0.length) = false := decide_eq_false (by omega)
 clear c2
 have H' := am H
 clear H
 go_enter Try.func23, Try.ntmps23
 go_wp2
 go_loopg [4, 12] k (fun kq v4 v12 w' => ∃ (x4_1 : List Int) (x12_1 : Int), v12 = .int .i64 x12_1 ∧ Aside0 (cfa_Write.l0 kq x4_1 l0 (l0.length : Int) x12_1 = some (r1, r2)) ∧ Aside0 (kq ≤ k) ∧ Aside0 (Kd.R (Kd.int .u8) 5 w' w.heap.size (fun _ => True) v4 x4_1) ∧ Aside0 (Below w.heap.size w w'))
 case atStart => exact ⟨(([] : List Int)), (0), (by first | rfl | (simp; done) | (simp [*]; done)), H', ⟨Nat.le_refl _⟩, ⟨by first | exact Kd.R_nil _ _ _ _ _ | exact Kd.N_nil _ _ _ _ _⟩, ⟨by exact bl_g HB.out⟩⟩
 case round =>
  clear H'
  try clear c2
  try clear c2b0
  try clear c2b1
  try clear p2
  obtain ⟨x4_1, x12_1, rfl, HA, HK1, HO_4, HB⟩ := hrel
  cases gk with
  | zero => exact absurd HA.out (by simp [cfa_Write.l0])
  | succ k1 =>
   have H := HA.out
   clear HA
   simp only [cfa_Write.l0] at H
   by_cases c3 : x12_1 < (l0.length : Int)
   rotate_left
   ·
    rw [if_neg c3] at H
    have c3b0 : decide (x12_1 < (l0.length : Int)) = false := decide_eq_false c3
    clear c3
    simp only [Option.some.injEq, Prod.mk.injEq] at H
    obtain ⟨rfl, rfl⟩ := H
    go_wp2
    go_ret2
    exact ⟨_, rfl, by (with_reducible repeat (first | apply Kd.R_alloc | apply Kd.R_drewN | apply Kd.R_drew)); exact HO_4.out, by exact bl_g HB.out⟩
   rw [if_pos c3] at H
   have c3b0 : decide (x12_1 < (l0.length : Int)) = true := decide_eq_true c3
   clear c3
   by_cases c4 : 0 ≤ x12_1
   rotate_left
   ·
    rw [if_neg c4] at H
    exact absurd H (by simp)
   rw [if_pos c4] at H
   have c4b0 : decide (0 ≤ x12_1) = true := decide_eq_true c4
   clear c4
   by_cases c5 : x12_1 < (l0.length : Int)
   rotate_left
   ·
    rw [if_neg c5] at H
    exact absurd H (by simp)
   rw [if_pos c5] at H
   have c5b0 : decide (x12_1 < (l0.length : Int)) = true := decide_eq_true c5
   clear c5
   replace H := Option.bind_eq_some_iff.mp H
   obtain ⟨t103, A60, H⟩ := H
   replace H : (if t103 = true then ((cfa_Op_bytes.f k1 ((rd_T105 l0 x12_1).f0) ((rd_T105 l0 x12_1).f1) ((rd_T105 l0 x12_1).f2)).bind fun t104 => (if x4_1.length + t104.length < 140737488355328 then (cfa_Write.l0 k1 (x4_1 ++ t104) l0 (l0.length : Int) (wrap64 (x12_1 + 1))) else (none))) else (some (([] : List Int), 130))) = some (r1, r2) := H
   have A6 := am A60
   clear A60
   by_cases c7 : t103 = true
   rotate_left
   ·
    replace c7 := Bool.eq_false_iff.mpr c7
    subst c7
    replace H : (some (([] : List Int), 130)) = some (r1, r2) := by rw [if_neg (show ¬ (false = true) by decide)] at H; exact H
    simp only [Option.some.injEq, Prod.mk.injEq] at H
    obtain ⟨rfl, rfl⟩ := H
    have p101 : 0 ≤ (x12_1 : Int) := od
    have q101 : x12_1 < (l0.length : Int) := od
    obtain ⟨ad101, e101, hx101_0, hx101_1, hx101_2⟩ := at_T105 HR0.out x12_1 p101 q101
    cases e101
    replace hx101_0 := oc HB.out hx101_0
    replace hx101_1 := oc HB.out hx101_1
    replace hx101_2 := oc HB.out hx101_2
    replace p101 := eq_true p101
    replace q101 := eq_true q101
    go_wp2_with (first | ((with_reducible refine gate_dst (N := 6) rfl ?_); refine box_event ?hg (N := 6) ?hd (cs := #[.int .i64 0, .int .i64 0, .int .i64 0]) (t := 105) ?hr ?_; (case hd => rfl); (case hg => rfl); (case hr => go_simp; try rfl); intro gb102 hg w17 hbox hb; refine mv4 (am (Kd.R_below (Kd.R_o HO_4.out) hb)) (am (below_step (by exact bl_o HB.out) hb)) (am (hbox)) (lei (by rw [hg]; exact (below_size (by exact bl_o HB.out)) : w.heap.size ≤ gb102)) ?_; clear HO_4 HB; intro HO_4 HB BK102 GW102; have GE102 := GW102; clear hb hbox hg; obtain ⟨hcz18_0, hcz18_1, hcz18_2, hfz18_0, hfz18_1, hfz18_2⟩ := cells3 BK102.out) | ((with_reducible refine gate_callee (f := 58) rfl ?_); refine goesL_ (some 17) rfl rfl Try.func58 (by kernel_rfl) rfl #[.agg #[.int .i64 ((rd_T105 l0 x12_1).f0), .int .i64 ((rd_T105 l0 x12_1).f1), .int .i64 ((rd_T105 l0 x12_1).f2)]] rfl (by simp only [ml]; try rfl) ?_; (with_reducible refine (cfa_Op_may.calls ((rd_T105 l0 x12_1).f0) ((rd_T105 l0 x12_1).f1) ((rd_T105 l0 x12_1).f2) false _ A6.out).mono ?_); rintro e w19 ⟨rfl, hb⟩; refine ⟨_, rfl, ?_⟩; refine mv3 (am (Kd.R_below (Kd.R_o (Kd.R_mono (Kd.R_far (p := ⟨gb102, 2, none⟩) (Kd.R_far (p := ⟨gb102, 1, none⟩) (Kd.R_far (p := ⟨gb102, 0, none⟩) (Kd.R_types HO_4.out BK102.out (by decide)) (fun _ hk => hk.2) (.int .i64 ((rd_T105 l0 x12_1).f0))) (fun _ hk => hk.2) (.int .i64 ((rd_T105 l0 x12_1).f1))) (fun _ hk => hk.2) (.int .i64 ((rd_T105 l0 x12_1).f2))) (fun _ h_ => h_.1))) hb)) (am (blk_below (g := gb102) (o := .cells #[.int .i64 ((rd_T105 l0 x12_1).f0), .int .i64 ((rd_T105 l0 x12_1).f1), .int .i64 ((rd_T105 l0 x12_1).f2)] 105 (0, 0)) (bps BK102.out rfl) hb)) (am (below_step (by exact bl_g HB.out) hb)) ?_; clear HO_4 BK102 HB; intro HO_4 BK102 HB))
    go_ret2
    exact ⟨_, rfl, by first | exact Kd.R_nil _ _ _ _ _ | exact Kd.N_nil _ _ _ _ _, by exact bl_g HB.out⟩
   subst c7
   replace H : ((cfa_Op_bytes.f k1 ((rd_T105 l0 x12_1).f0) ((rd_T105 l0 x12_1).f1) ((rd_T105 l0 x12_1).f2)).bind fun t104 => (if x4_1.length + t104.length < 140737488355328 then (cfa_Write.l0 k1 (x4_1 ++ t104) l0 (l0.length : Int) (wrap64 (x12_1 + 1))) else (none))) = some (r1, r2) := by rw [if_pos rfl] at H; exact H
   replace H := Option.bind_eq_some_iff.mp H
   obtain ⟨t104, A80, H⟩ := H
   replace H : (if x4_1.length + t104.length < 140737488355328 then (cfa_Write.l0 k1 (x4_1 ++ t104) l0 (l0.length : Int) (wrap64 (x12_1 + 1))) else (none)) = some (r1, r2) := H
   have A8 := am A80
   clear A80
   by_cases c9 : x4_1.length + t104.length < 140737488355328
   rotate_left
   ·
    rw [if_neg c9] at H
    exact absurd H (by simp)
   rw [if_pos c9] at H
   have LMc9 := am c9
   clear c9
   obtain ⟨y107, hy107⟩ : ∃ y_ : List Int, y_ = (x4_1 ++ t104) := ⟨_, rfl⟩
   replace H : (cfa_Write.l0 k1 y107 l0 (l0.length : Int) (wrap64 (x12_1 + 1))) = some (r1, r2) := by first | (rw [hy107]; with_reducible exact H) | (have H2_ := (Option.bind_some _ _).symm.trans H; rw [hy107]; with_reducible exact H2_)
   have Ny107 := am hy107
   clear hy107
   have H' := am H
   clear H
   have p101 : 0 ≤ (x12_1 : Int) := od
   have q101 : x12_1 < (l0.length : Int) := od
   obtain ⟨ad101, e101, hx101_0, hx101_1, hx101_2⟩ := at_T105 HR0.out x12_1 p101 q101
   cases e101
   replace hx101_0 := oc HB.out hx101_0
   replace hx101_1 := oc HB.out hx101_1
   replace hx101_2 := oc HB.out hx101_2
   replace p101 := eq_true p101
   replace q101 := eq_true q101
   go_wp2_with (first | ((with_reducible refine gate_dst (N := 6) rfl ?_); refine box_event ?hg (N := 6) ?hd (cs := #[.int .i64 0, .int .i64 0, .int .i64 0]) (t := 105) ?hr ?_; (case hd => rfl); (case hg => rfl); (case hr => go_simp; try rfl); intro gb102 hg w10 hbox hb; refine mv4 (am (Kd.R_below (Kd.R_o HO_4.out) hb)) (am (below_step (by exact bl_o HB.out) hb)) (am (hbox)) (lei (by rw [hg]; exact (below_size (by exact bl_o HB.out)) : w.heap.size ≤ gb102)) ?_; clear HO_4 HB; intro HO_4 HB BK102 GW102; have GE102 := GW102; clear hb hbox hg; obtain ⟨hcz11_0, hcz11_1, hcz11_2, hfz11_0, hfz11_1, hfz11_2⟩ := cells3 BK102.out) | ((with_reducible refine gate_callee (f := 58) rfl ?_); refine goesL_ (some 17) rfl rfl Try.func58 (by kernel_rfl) rfl #[.agg #[.int .i64 ((rd_T105 l0 x12_1).f0), .int .i64 ((rd_T105 l0 x12_1).f1), .int .i64 ((rd_T105 l0 x12_1).f2)]] rfl (by simp only [ml]; try rfl) ?_; (with_reducible refine (cfa_Op_may.calls ((rd_T105 l0 x12_1).f0) ((rd_T105 l0 x12_1).f1) ((rd_T105 l0 x12_1).f2) true _ A6.out).mono ?_); rintro e w12 ⟨rfl, hb⟩; refine ⟨_, rfl, ?_⟩; refine mv3 (am (Kd.R_below (Kd.R_o (Kd.R_mono (Kd.R_far (p := ⟨gb102, 2, none⟩) (Kd.R_far (p := ⟨gb102, 1, none⟩) (Kd.R_far (p := ⟨gb102, 0, none⟩) (Kd.R_types HO_4.out BK102.out (by decide)) (fun _ hk => hk.2) (.int .i64 ((rd_T105 l0 x12_1).f0))) (fun _ hk => hk.2) (.int .i64 ((rd_T105 l0 x12_1).f1))) (fun _ hk => hk.2) (.int .i64 ((rd_T105 l0 x12_1).f2))) (fun _ h_ => h_.1))) hb)) (am (blk_below (g := gb102) (o := .cells #[.int .i64 ((rd_T105 l0 x12_1).f0), .int .i64 ((rd_T105 l0 x12_1).f1), .int .i64 ((rd_T105 l0 x12_1).f2)] 105 (0, 0)) (bps BK102.out rfl) hb)) (am (below_step (by exact bl_g HB.out) hb)) ?_; clear HO_4 BK102 HB; intro HO_4 BK102 HB; obtain ⟨hcz13_0, hcz13_1, hcz13_2, hfz13_0, hfz13_1, hfz13_2⟩ := cells3 BK102.out) | ((with_reducible refine gate_callee (f := 59) rfl ?_); refine goesL_ (some 21) rfl rfl Try.func59 (by kernel_rfl) rfl #[.agg #[.int .i64 ((rd_T105 l0 x12_1).f0), .int .i64 ((rd_T105 l0 x12_1).f1), .int .i64 ((rd_T105 l0 x12_1).f2)]] rfl (by simp only [ml]; try rfl) ?_; (with_reducible refine (cfa_Op_bytes.calls k1 ((rd_T105 l0 x12_1).f0) ((rd_T105 l0 x12_1).f1) ((rd_T105 l0 x12_1).f2) t104 _ A8.out).mono ?_); rintro e w14 ⟨v105, rfl, ho0, hb⟩; refine ⟨_, rfl, ?_⟩; refine mv4 (am (Kd.R_elder' (Kd.R_o HO_4.out) (Kd.R_base ho0) hb)) (am (Kd.R_lower (Kd.R_new' ho0 (Kd.R_lt (Kd.R_o HO_4.out))) (below_size (by exact bl_g HB.out)))) (am (blk_below (blk_o BK102.out) hb)) (am (below_step (by exact bl_g HB.out) hb)) ?_; clear HO_4 BK102 HB; intro HO_4 HO106 BK102 HB; obtain ⟨Ao16, co16, eo16⟩ := Kd.R_slice HO106.out; subst eo16) | ((with_reducible refine gate_builtin (b := .append) (xs := #[.tmp 19, .tmp 21]) rfl ?_); at_builtin; refine Kd.R_append_rows (Kd.int .u8) (w0 := w) w.heap.size rfl (.tmp 19) (.tmp 21) 28 5 (.int .u8 0) 1 rfl Try.underlying28 info5 rfl (by decide) (by omega) u4 x4_1 t104 _ _ _ (fun k_ => some k_ ≠ (.slice Ao16 t104.length co16 : Value).ownBlock) (fun _ => False) rfl rfl ?aO ?aR (fun _ _ h => h) (fun _ h => h.elim) ?aF ?aB ?aS ?aL ?_; (case aR => exact Kd.C_o ((Kd.R_reads' HO106.out).2.2)); (case aB => exact (by exact bl_g HB.out)); (case aF => exact (fun k_ hk => Kd.fresh' (Kd.R_lt (Kd.R_o HO106.out)) k_ hk)); (case aO => exact (Kd.R_o (Kd.R_mono HO_4.out (fun _ hk => hk.2)))); (case aS => exact (below_size (by exact bl_g HB.out))); (case aL => have := LMc9.out; omega); intro v108 w15 ho hb hg hat; rw [← Ny107.out] at ho; refine mv4 (am (blk_grown (g := gb102) (o := .cells #[.int .i64 ((rd_T105 l0 x12_1).f0), .int .i64 ((rd_T105 l0 x12_1).f1), .int .i64 ((rd_T105 l0 x12_1).f2)] 105 (0, 0)) (blk_o BK102.out) hg (Kd.R_ne HO_4.out BK102.out (by decide)))) (am (Kd.R_after (ok := (fun _ => True)) (Kd.R_o HO106.out) hg hat)) (am (hb)) (am (ho)) ?_; clear BK102 HO106 HB HO_4; intro BK102 HO106 HB HO109; clear ho hb hg hat))
   go_roundg k1
   case measure => have := HK1.out; omega
   case rel => exact ⟨(y107), (wrap64 (x12_1 + 1)), (by first | rfl | (simp; done) | (simp [*]; done)), H', ⟨by have := HK1.out; omega⟩, ⟨by (with_reducible repeat (first | apply Kd.R_alloc | apply Kd.R_drewN | apply Kd.R_drew)); exact Kd.R_mono HO109.out (fun _ hk => trivial)⟩, ⟨by exact bl_g HB.out⟩⟩
def ehframe_low.f (k : Nat) (a0 : Int) : Option (List Int) := (leb_Put.f k a0 8).bind fun bt101 => (if 4 ≤ (bt101.1.length : Int) then (some (bt101.1.take (4 : Int).toNat)) else (none))
theorem ehframe_low.mono : ∀ a0 k, LeO (ehframe_low.f k a0) (ehframe_low.f (k + 1) a0) := by
 intro a0 k
 unfold ehframe_low.f
 repeat' first
     | (with_reducible exact leb_Put.mono _ _ _)
     | (with_reducible exact LeO.refl _)
     | (with_reducible exact LeO.none _)
     | (with_reducible refine LeO.ite ?_ ?_)
     | (with_reducible refine LeO.bind ?_ (fun _ => ?_))
     | exact leb_Put.mono _ _ _
     | exact LeO.none _
     | refine LeO.ite ?_ ?_
     | refine LeO.bind ?_ (fun _ => ?_)
set_option maxHeartbeats 8000000 in
theorem ehframe_low.calls (k : Nat) (a0 : Int) (r : List Int) (w : World) (h : ehframe_low.f k a0 = some r) :
    Calls Try.prog 26 #[.int .i64 a0] w fun e w' => ∃ v0_ : Value, e = .returned (v0_) ∧ Kd.R (Kd.int .u8) 5 w' w.heap.size (fun _ => True) v0_ r ∧ Below w.heap.size w w' := by
 have HB := am (Below.refl w.heap.size w)
 have H : ((leb_Put.f k a0 8).bind fun bt101 => (if 4 ≤ (bt101.1.length : Int) then (some (bt101.1.take (4 : Int).toNat)) else (none))) = some r := h
 clear h
 replace H := Option.bind_eq_some_iff.mp H
 obtain ⟨⟨t101, t102⟩, A20, H⟩ := H
 replace H : (if 4 ≤ (t101.length : Int) then (some (t101.take (4 : Int).toNat)) else (none)) = some r := H
 have A2 := am A20
 clear A20
 by_cases c3 : 4 ≤ (t101.length : Int)
 rotate_left
 ·
  rw [if_neg c3] at H
  exact absurd H (by simp)
 rw [if_pos c3] at H
 have c3b0 := eq_true c3
 have c3b1 : decide (4 ≤ (t101.length : Int)) = true := decide_eq_true c3
 clear c3
 obtain ⟨y105, hy105⟩ : ∃ y_ : List Int, y_ = (t101.take (4 : Int).toNat) := ⟨_, rfl⟩
 replace H : (some y105) = some r := by first | (rw [hy105]; with_reducible exact H) | (have H2_ := (Option.bind_some _ _).symm.trans H; rw [hy105]; with_reducible exact H2_)
 have Ny105 := am hy105
 clear hy105
 obtain rfl := Option.some.inj H
 go_enter Try.func26, Try.ntmps26
 go_wp2_with (first | ((with_reducible refine gate_callee (f := 40) rfl ?_); refine goesL_ (some 7) rfl rfl Try.func40 (by kernel_rfl) rfl #[.int .i64 a0, .int .i64 8] rfl (by simp only [ml]; try rfl) ?_; (with_reducible refine (leb_Put.calls k a0 8 t101 t102 _ A2.out).mono ?_); rintro e w4 ⟨v103, rfl, ho0, hb⟩; refine ⟨_, rfl, ?_⟩; refine mv2 (am (Kd.R_lower ho0 (below_size (by exact bl_o HB.out)))) (am (below_step (by exact bl_o HB.out) hb)) ?_; clear HB; intro HO104 HB; obtain ⟨Ao5, co5, eo5⟩ := Kd.R_slice HO104.out; subst eo5; have q6 : (4 : Int) ≤ ((t101.length : Int) : Int) := od; obtain ⟨i06, hi06, _, hsz6, _⟩ := info_parts info5; have hcut6 := cut_to (P := Try.prog) 28 5 .i64 Try.underlying28 hi06 Ao5 t101.length co5 4 (by omega) q6 (Kd.R_reads' HO104.out).2.1; have hr6 := Kd.R_take (m := (4 : Int).toNat) HO104.out (by omega); have hy6 : y105.length = (4 : Int).toNat := (by rw [Ny105.out, List.length_take]; omega); rw [← Ny105.out] at hr6; rw [← hy6] at hr6 hcut6; clear hy6 hi06 hsz6 HO104; have HO107 := am hr6; clear hr6; replace q6 := eq_true q6))
 go_ret
 exact ⟨_, rfl, by (with_reducible repeat (first | apply Kd.R_alloc | apply Kd.R_drewN | apply Kd.R_drew)); exact HO107.out, by exact bl_g HB.out⟩
def ehframe_record.l0 : Nat → List Int → Option (List Int)
  | 0, _ => none
  | k + 1, x0 => if ((x0.length : Int) % 8) = 4 then ((ehframe_low.f k (x0.length : Int)).bind fun t101 => (if t101.length + x0.length < 140737488355328 then (some (t101 ++ x0)) else (none))) else (if x0.length < 140737488355328 then (ehframe_record.l0 k (x0 ++ [0])) else (none))
def ehframe_record.f (k : Nat) (l0 : List Int) : Option (List Int) := ehframe_record.l0 k l0
theorem ehframe_record.mono_l : ∀ k, (∀ y0, LeO (ehframe_record.l0 k y0) (ehframe_record.l0 (k + 1) y0))
  | 0 => fun _ r h => by simp [ehframe_record.l0] at h
  | k + 1 => by
    have ih0 := ehframe_record.mono_l k
    · intro y0
      unfold ehframe_record.l0
      repeat' first
      | (with_reducible exact ih0 _)
      | (with_reducible exact ehframe_low.mono _ _)
      | (with_reducible exact LeO.refl _)
      | (with_reducible exact LeO.none _)
      | (with_reducible refine LeO.ite ?_ ?_)
      | (with_reducible refine LeO.bind ?_ (fun _ => ?_))
      | exact ih0 _
      | exact ehframe_low.mono _ _
      | exact LeO.none _
      | refine LeO.ite ?_ ?_
      | refine LeO.bind ?_ (fun _ => ?_)
theorem ehframe_record.mono : ∀ a0 k, LeO (ehframe_record.f k a0) (ehframe_record.f (k + 1) a0) := by
 intro a0 k
 have ih0 := ehframe_record.mono_l k
 unfold ehframe_record.f
 repeat' first
     | (with_reducible exact ih0 _)
     | (with_reducible exact ehframe_low.mono _ _)
     | (with_reducible exact LeO.refl _)
     | (with_reducible exact LeO.none _)
     | (with_reducible refine LeO.ite ?_ ?_)
     | (with_reducible refine LeO.bind ?_ (fun _ => ?_))
     | exact ih0 _
     | exact ehframe_low.mono _ _
     | exact LeO.none _
     | refine LeO.ite ?_ ?_
     | refine LeO.bind ?_ (fun _ => ?_)
set_option maxHeartbeats 8000000 in
theorem ehframe_record.calls (k : Nat) (P0_ : Nat → Prop) (u9000_ : Value) (l0 : List Int) (r : List Int) (w0 w : World) (hB : Below w0.heap.size w0 w) (ho0 : Kd.R (Kd.int .u8) 5 w w0.heap.size P0_ u9000_ l0) (h : ehframe_record.f k l0 = some r) :
    Calls Try.prog 24 #[u9000_] w fun e w' => ∃ v0_ : Value, e = .returned (v0_) ∧ Kd.R (Kd.int .u8) 5 w' w0.heap.size (fun k_ => (P0_ k_ ∨ w.heap.size ≤ k_)) v0_ r ∧ Below w0.heap.size w0 w' ∧ Kept w w' (fun k_ => P0_ k_) := by
 have HO0 := am (show Kd.R (Kd.int .u8) 5 w w0.heap.size (fun k_ => (P0_ k_ ∨ w.heap.size ≤ k_)) u9000_ l0 from Kd.R_mono ho0 (fun k_ hk => (.inl hk)))
 have HK := am (Kept.refl w (fun k_ => P0_ k_))
 have HW0 := am hB.size
 have HB := am hB
 clear hB
 have H : (ehframe_record.l0 k l0) = some r := h
 clear h
 have H' := am H
 clear H
 go_enter Try.func24, Try.ntmps24
 go_wp2
 go_loopg [0] k (fun kq v0 w' => ∃ (x0_1 : List Int), Aside0 (ehframe_record.l0 kq x0_1 = some r) ∧ Aside0 (kq ≤ k) ∧ Aside0 (Kd.R (Kd.int .u8) 5 w' w0.heap.size (fun k_ => (P0_ k_ ∨ w.heap.size ≤ k_)) v0 x0_1) ∧ Aside0 (Kept w w' (fun k_ => P0_ k_)) ∧ Aside0 (Below w0.heap.size w0 w'))
 case atStart => exact ⟨(l0), H', ⟨Nat.le_refl _⟩, ⟨by (with_reducible repeat (first | apply Kd.R_alloc | apply Kd.R_drewN | apply Kd.R_drew)); exact HO0.out⟩, ⟨by repeat (first | (with_reducible first | exact HK.out | apply Kept.alloc | apply Kept.drewN | apply Kept.drew) | exact HK.out)⟩, ⟨by exact bl_g HB.out⟩⟩
 case round =>
  clear H'
  obtain ⟨x0_1, HA, HK1, HO_0, HK, HB⟩ := hrel
  cases gk with
  | zero => exact absurd HA.out (by simp [ehframe_record.l0])
  | succ k1 =>
   have H := HA.out
   clear HA
   simp only [ehframe_record.l0] at H
   by_cases c2 : ((x0_1.length : Int) % 8) = 4
   ·
    rw [if_pos c2] at H
    have c2b0 : (((x0_1.length : Int) % 8) == 4) = true := beq_iff_eq.mpr c2
    have c2b1 : (((x0_1.length : Int) % 8) != 4) = false := bne_eq_false_iff_eq.mpr c2
    clear c2
    replace H := Option.bind_eq_some_iff.mp H
    obtain ⟨t101, A30, H⟩ := H
    replace H : (if t101.length + x0_1.length < 140737488355328 then (some (t101 ++ x0_1)) else (none)) = some r := H
    have A3 := am A30
    clear A30
    by_cases c4 : t101.length + x0_1.length < 140737488355328
    rotate_left
    ·
     rw [if_neg c4] at H
     exact absurd H (by simp)
    rw [if_pos c4] at H
    have LMc4 := am c4
    clear c4
    obtain ⟨y104, hy104⟩ : ∃ y_ : List Int, y_ = (t101 ++ x0_1) := ⟨_, rfl⟩
    replace H : (some y104) = some r := by first | (rw [hy104]; with_reducible exact H) | (have H2_ := (Option.bind_some _ _).symm.trans H; rw [hy104]; with_reducible exact H2_)
    have Ny104 := am hy104
    clear hy104
    obtain rfl := Option.some.inj H
    obtain ⟨Ao5, co5, eo5⟩ := Kd.R_slice HO_0.out
    subst eo5
    go_wp2_with (first | ((with_reducible refine gate_callee (f := 26) rfl ?_); refine goesL_ (some 12) rfl rfl Try.func26 (by kernel_rfl) rfl #[.int .i64 (x0_1.length : Int)] rfl (by simp only [ml]; try rfl) ?_; (with_reducible refine (ehframe_low.calls k1 (x0_1.length : Int) t101 _ A3.out).mono ?_); rintro e w6 ⟨v102, rfl, ho0, hb⟩; refine ⟨_, rfl, ?_⟩; refine mv4 (am (Kd.R_elder' (Kd.R_o HO_0.out) (Kd.R_base ho0) hb)) (am (Kd.R_lower (Kd.R_new' (Kd.R_newM (M := fun k_ => (P0_ k_ ∨ w.heap.size ≤ k_)) ho0 (by first | exact HK.out.1 | exact (show Kept w _ (fun k_ => P0_ k_) from by repeat (first | (with_reducible first | exact HK.out | apply Kept.alloc | apply Kept.drewN | apply Kept.drew) | exact HK.out)).1) (fun k_ h_ => .inr h_)) (Kd.R_lt (Kd.R_o HO_0.out))) (below_size (by exact bl_o HB.out)))) (am (Kept.below (S := (fun k_ => P0_ k_)) (by repeat (first | (with_reducible first | exact HK.out | apply Kept.alloc | apply Kept.drewN | apply Kept.drew) | exact HK.out)) hb)) (am (below_step (by exact bl_o HB.out) hb)) ?_; clear HO_0 HK HB; intro HO_0 HO103 HK HB) | ((with_reducible refine gate_builtin (b := .append) (xs := #[.tmp 12, .tmp 13]) rfl ?_); at_builtin; refine Kd.R_append_rows (Kd.int .u8) (w0 := w0) w0.heap.size rfl (.tmp 12) (.tmp 13) 28 5 (.int .u8 0) 1 rfl Try.underlying28 info5 rfl (by decide) (by omega) v102 t101 x0_1 _ _ _ (fun k_ => (P0_ k_ ∨ w.heap.size ≤ k_) ∧ some k_ ≠ (.slice Ao5 x0_1.length co5 : Value).ownBlock) (fun _ => False) rfl rfl ?aO ?aR (fun _ _ h => h) (fun _ h => h.elim) ?aF ?aB ?aS ?aL ?_; (case aR => exact Kd.C_o ((Kd.R_reads' HO_0.out).2.2)); (case aB => exact (by exact bl_o HB.out)); (case aF => exact (fun k_ hk => ⟨(.inr (Nat.le_trans (by first | exact HK.out.1 | exact (show Kept w _ (fun k_ => P0_ k_) from by repeat (first | (with_reducible first | exact HK.out | apply Kept.alloc | apply Kept.drewN | apply Kept.drew) | exact HK.out)).1) hk)), Kd.fresh' (Kd.R_lt (Kd.R_o HO_0.out)) k_ hk⟩)); (case aO => exact (Kd.R_o (Kd.R_mono HO103.out (fun _ hk => ⟨hk.1.1, hk.2⟩)))); (case aS => exact (below_size (by exact bl_o HB.out))); (case aL => have := LMc4.out; omega); intro v105 w7 ho hb hg hat; rw [← Ny104.out] at ho; refine mv4 (am (Kd.R_after (ok := (fun k_ => (P0_ k_ ∨ w.heap.size ≤ k_))) (Kd.R_o HO_0.out) hg hat)) (am (hb)) (am (Kept.of_grown (S := (fun k_ => P0_ k_)) hg (by repeat (first | (with_reducible first | exact HK.out | apply Kept.alloc | apply Kept.drewN | apply Kept.drew) | exact HK.out)) (fun k_ e_ => (HO103.out.1 k_ e_).1.1))) (am (ho)) ?_; clear HO_0 HB HK HO103; intro HO_0 HB HK HO106; clear ho hb hg hat))
    go_ret
    exact ⟨_, rfl, by (with_reducible repeat (first | apply Kd.R_alloc | apply Kd.R_drewN | apply Kd.R_drew)); exact Kd.R_mono HO106.out (fun _ hk => hk.1), by exact bl_g HB.out, by repeat (first | (with_reducible first | exact HK.out | apply Kept.alloc | apply Kept.drewN | apply Kept.drew) | exact HK.out)⟩
   rw [if_neg c2] at H
   have c2b0 : (((x0_1.length : Int) % 8) == 4) = false := beq_eq_false_iff_ne.mpr c2
   have c2b1 : (((x0_1.length : Int) % 8) != 4) = true := bne_iff_ne.mpr c2
   by_cases c8 : x0_1.length < 140737488355328
   rotate_left
   ·
    rw [if_neg c8] at H
    exact absurd H (by simp)
   rw [if_pos c8] at H
   have LMc8 := am c8
   clear c8
   obtain ⟨y107, hy107⟩ : ∃ y_ : List Int, y_ = (x0_1 ++ [0]) := ⟨_, rfl⟩
   replace H : (ehframe_record.l0 k1 y107) = some r := by first | (rw [hy107]; with_reducible exact H) | (have H2_ := (Option.bind_some _ _).symm.trans H; rw [hy107]; with_reducible exact H2_)
   have Ny107 := am hy107
   clear hy107
   have H' := am H
   clear H
   obtain ⟨Ao9, co9, eo9⟩ := Kd.R_slice HO_0.out
   subst eo9
   go_wp2_with (first | ((with_reducible refine gate_builtin (b := .append) (xs := #[.tmp 7, .tmp 8]) rfl ?_); at_builtin; refine Kd.R_append (Kd.int .u8) (w0 := w0) w0.heap.size rfl (.tmp 7) (.tmp 8) 28 5 (.int .u8 0) 1 rfl Try.underlying28 info5 rfl (by decide) (by omega) (.slice Ao9 x0_1.length co9) x0_1 0 [.int .u8 0] (fun k_ => (P0_ k_ ∨ w.heap.size ≤ k_)) (fun _ => False) rfl rfl ?aP (fun _ hk => hk.elim) ?aF ?aO ?aB ?aS ?aL ?_; (case aP => exact rfl); (case aB => exact (by exact bl_o HB.out)); (case aF => exact (fun k_ hk => (.inr (Nat.le_trans (by first | exact HK.out.1 | exact (show Kept w _ (fun k_ => P0_ k_) from by repeat (first | (with_reducible first | exact HK.out | apply Kept.alloc | apply Kept.drewN | apply Kept.drew) | exact HK.out)).1) hk)))); (case aO => exact (Kd.R_o HO_0.out)); (case aS => exact (below_size (by exact bl_o HB.out))); (case aL => have := LMc8.out; omega); intro v108 w10 ho hb hg hat; rw [← Ny107.out] at ho; refine mv3 (am (hb)) (am (Kept.of_grown (S := (fun k_ => P0_ k_)) hg (by repeat (first | (with_reducible first | exact HK.out | apply Kept.alloc | apply Kept.drewN | apply Kept.drew) | exact HK.out)) (fun k_ e_ => (HO_0.out.1 k_ e_)))) (am (ho)) ?_; clear HB HK HO_0; intro HB HK HO109; clear ho hb hg hat))
   go_roundg k1
   case measure => have := HK1.out; omega
   case rel => exact ⟨(y107), H', ⟨by have := HK1.out; omega⟩, ⟨by (with_reducible repeat (first | apply Kd.R_alloc | apply Kd.R_drewN | apply Kd.R_drew)); exact HO109.out⟩, ⟨by repeat (first | (with_reducible first | exact HK.out | apply Kept.alloc | apply Kept.drewN | apply Kept.drew) | exact HK.out)⟩, ⟨by exact bl_g HB.out⟩⟩
def ehframe_head.f (a0 : Int) : Option (List Int) := some (([0, 0, 0, 0, 1, 122, 82, 0, 1, 120, 16, 1, (a0) % 256] : List Int))
set_option maxHeartbeats 8000000 in
theorem ehframe_head.calls (a0 : Int) (r : List Int) (w : World) (h : ehframe_head.f a0 = some r) :
    Calls Try.prog 25 #[.int .i64 a0] w fun e w' => ∃ v0_ : Value, e = .returned (v0_) ∧ Kd.R (Kd.int .u8) 5 w' w.heap.size (fun _ => True) v0_ r ∧ Below w.heap.size w w' := by
 have HB := am (Below.refl w.heap.size w)
 have H : (some (([0, 0, 0, 0, 1, 122, 82, 0, 1, 120, 16, 1, (a0) % 256] : List Int))) = some r := h
 clear h
 obtain ⟨y101, hy101⟩ : ∃ y_ : List Int, y_ = (([0, 0, 0, 0, 1, 122, 82, 0, 1, 120, 16, 1, (a0) % 256] : List Int)) := ⟨_, rfl⟩
 replace H : (some y101) = some r := by first | (rw [hy101]; with_reducible exact H) | (have H2_ := (Option.bind_some _ _).symm.trans H; rw [hy101]; with_reducible exact H2_)
 have Ny101 := am hy101
 clear hy101
 obtain rfl := Option.some.inj H
 go_enter Try.func25, Try.ntmps25
 go_wp2_with (first | ((with_reducible refine gate_dst (N := 5) rfl ?_); refine Kd.R_lit (Kd.int .u8) _ 5 ?hg (N := 5) ?hd (xs := ([0, 0, 0, 0, 1, 122, 82, 0, 1, 120, 16, 1, (a0) % 256] : List Int)) (inner := [.int .u8 0, .int .u8 0, .int .u8 0, .int .u8 0, .int .u8 1, .int .u8 122, .int .u8 82, .int .u8 0, .int .u8 1, .int .u8 120, .int .u8 16, .int .u8 1, .int .u8 ((a0) % 256)]) (ok := fun _ => True) (okp := fun _ => True) ?hr ?hp (fun _ hk => hk) trivial (Below.refl _ _) (Nat.le_refl _) (by simp) ?_; (case hd => rfl); (case hg => rfl); (case hr => go_simp; try rfl); (case hp => exact (Reps.one (show Kd.M (Kd.int .u8) _ _ _ 0 [.int .u8 0] from rfl) (Reps.one (show Kd.M (Kd.int .u8) _ _ _ 0 [.int .u8 0] from rfl) (Reps.one (show Kd.M (Kd.int .u8) _ _ _ 0 [.int .u8 0] from rfl) (Reps.one (show Kd.M (Kd.int .u8) _ _ _ 0 [.int .u8 0] from rfl) (Reps.one (show Kd.M (Kd.int .u8) _ _ _ 1 [.int .u8 1] from rfl) (Reps.one (show Kd.M (Kd.int .u8) _ _ _ 122 [.int .u8 122] from rfl) (Reps.one (show Kd.M (Kd.int .u8) _ _ _ 82 [.int .u8 82] from rfl) (Reps.one (show Kd.M (Kd.int .u8) _ _ _ 0 [.int .u8 0] from rfl) (Reps.one (show Kd.M (Kd.int .u8) _ _ _ 1 [.int .u8 1] from rfl) (Reps.one (show Kd.M (Kd.int .u8) _ _ _ 120 [.int .u8 120] from rfl) (Reps.one (show Kd.M (Kd.int .u8) _ _ _ 16 [.int .u8 16] from rfl) (Reps.one (show Kd.M (Kd.int .u8) _ _ _ 1 [.int .u8 1] from rfl) (Reps.one (show Kd.M (Kd.int .u8) _ _ _ ((a0) % 256) [.int .u8 ((a0) % 256)] from rfl) (Reps.none _ _))))))))))))))); intro v102 w2 ho3 hb hg_ hnew_; clear hg_ hnew_; (first | rw [← Ny101.out] at ho3 | (simp only [Int.reduceToNat] at ho3; rw [← Ny101.out] at ho3)); refine mv2 (am (Kd.R_lower ho3 (below_size (by exact bl_o HB.out)))) (am (below_step (by exact bl_o HB.out) hb)) ?_; clear HB; intro HO103 HB; clear hb ho3))
 go_ret
 exact ⟨_, rfl, by (with_reducible repeat (first | apply Kd.R_alloc | apply Kd.R_drewN | apply Kd.R_drew)); exact HO103.out, by exact bl_g HB.out⟩
mutual
def ehframe_Write.j0 : Nat → List (S69) → List (S46) → Int → Bool → List Int → Bool → Option (List Int × List Int × Int)
  | 0, _, _, _, _, _, _ => none
  | k + 1, x0, x1, x2, x3, x8, x36 => if x36 = true then (some (([] : List Int), ([] : List Int), 11)) else (if 0 ≤ (x1.length : Int) then (if ((x1.length : Int) : Int).toNat ≤ 35184372088832 then (ehframe_Write.l0 k x1 x2 x3 x8 (List.replicate ((x1.length : Int) : Int).toNat 0) x0 (x0.length : Int) 0) else (none)) else (none))
def ehframe_Write.l0 : Nat → List (S46) → Int → Bool → List Int → List Int → List (S69) → Int → Int → Option (List Int × List Int × Int)
  | 0, _, _, _, _, _, _, _, _ => none
  | k + 1, x1, x2, x3, x8, x9, x40, x41, x42 => if x42 < x41 then (if 0 ≤ x42 then (if x42 < (x40.length : Int) then ((cfa_Write.f k ((rd_T69 x40 x42).f1)).bind fun bt107 => ((ehframe_head.f ((rd_T69 x40 x42).f0)).bind fun t111 => (if t111.length + bt107.1.length < 140737488355328 then ((ehframe_record.f k (t111 ++ bt107.1)).bind fun t117 => (if x8.length + t117.length < 140737488355328 then (ehframe_Write.l1 k x1 x2 x3 (x8 ++ t117) x9 x42 (x8.length : Int) x40 x41 x42 x1 (x1.length : Int) 0 ((rd_T69 x40 x42).f0) ((rd_T69 x40 x42).f1)) else (none))) else (none)))) else (none)) else (none)) else (if x3 = true then ((some (([0, 0, 0, 0] : List Int) : List Int)).bind fun y159 => (if x8.length + y159.length < 140737488355328 then ((some (x8 ++ y159 : List Int)).bind fun y162 => (if (y162.length : Int) > 1048576 then (some (([] : List Int), ([] : List Int), 6)) else (some (y162, x9, 0)))) else (none))) else (if (x8.length : Int) > 1048576 then (some (([] : List Int), ([] : List Int), 6)) else (some (x8, x9, 0))))
def ehframe_Write.l1 : Nat → List (S46) → Int → Bool → List Int → List Int → Int → Int → List (S69) → Int → Int → List (S46) → Int → Int → Int → List (S105) → Option (List Int × List Int × Int)
  | 0, _, _, _, _, _, _, _, _, _, _, _, _, _, _, _ => none
  | k + 1, x1, x2, x3, x8, x9, x12, x14, x40, x41, x42, x63, x64, x65, x107000, x107001 => if x65 < x64 then (if 0 ≤ x65 then (if x65 < (x63.length : Int) then (if ((rd_T46 x63 x65).f0) = x12 then (if x65 < (x9.length : Int) then ((ehframe_low.f k (wrap64 ((wrap64 ((x8.length : Int) + 4)) - x14))).bind fun t126 => ((ehframe_Put.f k x107000 ((rd_T46 x63 x65).f1) (wrap64 ((wrap64 (x2 + (x8.length : Int))) + 8)) 0).bind fun bt129 => (if bt129.2 = 0 then ((ehframe_Put.f k (Go.bits .and .i64 x107000 15) ((rd_T46 x63 x65).f2) 0 0).bind fun bt133 => (if bt133.2 = 0 then ((cfa_Write.f k ((rd_T46 x63 x65).f3)).bind fun bt137 => (if t126.length + bt129.1.length < 140737488355328 then ((some (t126 ++ bt129.1 : List Int)).bind fun y141 => (if y141.length + bt133.1.length < 140737488355328 then ((some (y141 ++ bt133.1 : List Int)).bind fun y144 => (if y144.length < 140737488355328 then ((some (y144 ++ [0] : List Int)).bind fun y147 => (if y147.length + bt137.1.length < 140737488355328 then ((ehframe_record.f k (y147 ++ bt137.1)).bind fun t153 => (if x8.length + t153.length < 140737488355328 then (ehframe_Write.l1 k x1 x2 x3 (x8 ++ t153) (x9.set (x65 : Int).toNat (x8.length : Int)) x12 x14 x40 x41 x42 x63 x64 (wrap64 (x65 + 1)) x107000 x107001) else (none))) else (none))) else (none))) else (none))) else (none))) else (some (([] : List Int), ([] : List Int), 11)))) else (some (([] : List Int), ([] : List Int), 11))))) else (none)) else (ehframe_Write.l1 k x1 x2 x3 x8 x9 x12 x14 x40 x41 x42 x63 x64 (wrap64 (x65 + 1)) x107000 x107001)) else (none)) else (none)) else (ehframe_Write.l0 k x1 x2 x3 x8 x9 x40 x41 (wrap64 (x42 + 1)))
end
def ehframe_Write.f (k : Nat) (l0 : List (S69)) (l1 : List (S46)) (a2 : Int) (a3 : Bool) : Option (List Int × List Int × Int) := (ehframe_Check.f k l0 l1).bind fun t101 => (if t101 = 0 then (if a2 < 0 then (ehframe_Write.j0 k l0 l1 a2 a3 ([] : List Int) true) else (ehframe_Write.j0 k l0 l1 a2 a3 ([] : List Int) (decide (a2 > 576460752303423488)))) else (some (([] : List Int), ([] : List Int), t101)))
theorem ehframe_Write.mono_l : ∀ k, (∀ y0 y1 y2 y3 y4 y5, LeO (ehframe_Write.j0 k y0 y1 y2 y3 y4 y5) (ehframe_Write.j0 (k + 1) y0 y1 y2 y3 y4 y5)) ∧ (∀ y0 y1 y2 y3 y4 y5 y6 y7, LeO (ehframe_Write.l0 k y0 y1 y2 y3 y4 y5 y6 y7) (ehframe_Write.l0 (k + 1) y0 y1 y2 y3 y4 y5 y6 y7)) ∧ (∀ y0 y1 y2 y3 y4 y5 y6 y7 y8 y9 y10 y11 y12 y13 y14, LeO (ehframe_Write.l1 k y0 y1 y2 y3 y4 y5 y6 y7 y8 y9 y10 y11 y12 y13 y14) (ehframe_Write.l1 (k + 1) y0 y1 y2 y3 y4 y5 y6 y7 y8 y9 y10 y11 y12 y13 y14))
  | 0 => ⟨fun _ _ _ _ _ _ r h => by simp [ehframe_Write.j0] at h, fun _ _ _ _ _ _ _ _ r h => by simp [ehframe_Write.l0] at h, fun _ _ _ _ _ _ _ _ _ _ _ _ _ _ _ r h => by simp [ehframe_Write.l1] at h⟩
  | k + 1 => by
    obtain ⟨ih0, ih1, ih2⟩ := ehframe_Write.mono_l k
    refine ⟨?_, ?_, ?_⟩
    · intro y0 y1 y2 y3 y4 y5
      unfold ehframe_Write.j0
      repeat' first
      | (with_reducible exact ih0 _ _ _ _ _ _)
      | (with_reducible exact ih1 _ _ _ _ _ _ _ _)
      | (with_reducible exact ih2 _ _ _ _ _ _ _ _ _ _ _ _ _ _ _)
      | (with_reducible exact cfa_Write.mono _ _)
      | (with_reducible exact ehframe_Check.mono _ _ _)
      | (with_reducible exact ehframe_Put.mono _ _ _ _ _)
      | (with_reducible exact ehframe_low.mono _ _)
      | (with_reducible exact ehframe_record.mono _ _)
      | (with_reducible exact LeO.refl _)
      | (with_reducible exact LeO.none _)
      | (with_reducible refine LeO.ite ?_ ?_)
      | (with_reducible refine LeO.bind ?_ (fun _ => ?_))
      | exact ih0 _ _ _ _ _ _
      | exact ih1 _ _ _ _ _ _ _ _
      | exact ih2 _ _ _ _ _ _ _ _ _ _ _ _ _ _ _
      | exact cfa_Write.mono _ _
      | exact ehframe_Check.mono _ _ _
      | exact ehframe_Put.mono _ _ _ _ _
      | exact ehframe_low.mono _ _
      | exact ehframe_record.mono _ _
      | exact LeO.none _
      | refine LeO.ite ?_ ?_
      | refine LeO.bind ?_ (fun _ => ?_)
    · intro y0 y1 y2 y3 y4 y5 y6 y7
      unfold ehframe_Write.l0
      repeat' first
      | (with_reducible exact ih0 _ _ _ _ _ _)
      | (with_reducible exact ih1 _ _ _ _ _ _ _ _)
      | (with_reducible exact ih2 _ _ _ _ _ _ _ _ _ _ _ _ _ _ _)
      | (with_reducible exact cfa_Write.mono _ _)
      | (with_reducible exact ehframe_Check.mono _ _ _)
      | (with_reducible exact ehframe_Put.mono _ _ _ _ _)
      | (with_reducible exact ehframe_low.mono _ _)
      | (with_reducible exact ehframe_record.mono _ _)
      | (with_reducible exact LeO.refl _)
      | (with_reducible exact LeO.none _)
      | (with_reducible refine LeO.ite ?_ ?_)
      | (with_reducible refine LeO.bind ?_ (fun _ => ?_))
      | exact ih0 _ _ _ _ _ _
      | exact ih1 _ _ _ _ _ _ _ _
      | exact ih2 _ _ _ _ _ _ _ _ _ _ _ _ _ _ _
      | exact cfa_Write.mono _ _
      | exact ehframe_Check.mono _ _ _
      | exact ehframe_Put.mono _ _ _ _ _
      | exact ehframe_low.mono _ _
      | exact ehframe_record.mono _ _
      | exact LeO.none _
      | refine LeO.ite ?_ ?_
      | refine LeO.bind ?_ (fun _ => ?_)
    · intro y0 y1 y2 y3 y4 y5 y6 y7 y8 y9 y10 y11 y12 y13 y14
      unfold ehframe_Write.l1
      repeat' first
      | (with_reducible exact ih0 _ _ _ _ _ _)
      | (with_reducible exact ih1 _ _ _ _ _ _ _ _)
      | (with_reducible exact ih2 _ _ _ _ _ _ _ _ _ _ _ _ _ _ _)
      | (with_reducible exact cfa_Write.mono _ _)
      | (with_reducible exact ehframe_Check.mono _ _ _)
      | (with_reducible exact ehframe_Put.mono _ _ _ _ _)
      | (with_reducible exact ehframe_low.mono _ _)
      | (with_reducible exact ehframe_record.mono _ _)
      | (with_reducible exact LeO.refl _)
      | (with_reducible exact LeO.none _)
      | (with_reducible refine LeO.ite ?_ ?_)
      | (with_reducible refine LeO.bind ?_ (fun _ => ?_))
      | exact ih0 _ _ _ _ _ _
      | exact ih1 _ _ _ _ _ _ _ _
      | exact ih2 _ _ _ _ _ _ _ _ _ _ _ _ _ _ _
      | exact cfa_Write.mono _ _
      | exact ehframe_Check.mono _ _ _
      | exact ehframe_Put.mono _ _ _ _ _
      | exact ehframe_low.mono _ _
      | exact ehframe_record.mono _ _
      | exact LeO.none _
      | refine LeO.ite ?_ ?_
      | refine LeO.bind ?_ (fun _ => ?_)
theorem ehframe_Write.mono : ∀ a0 a1 a2 a3 k, LeO (ehframe_Write.f k a0 a1 a2 a3) (ehframe_Write.f (k + 1) a0 a1 a2 a3) := by
 intro a0 a1 a2 a3 k
 obtain ⟨ih0, ih1, ih2⟩ := ehframe_Write.mono_l k
 unfold ehframe_Write.f
 repeat' first
     | (with_reducible exact ih0 _ _ _ _ _ _)
     | (with_reducible exact ih1 _ _ _ _ _ _ _ _)
     | (with_reducible exact ih2 _ _ _ _ _ _ _ _ _ _ _ _ _ _ _)
     | (with_reducible exact cfa_Write.mono _ _)
     | (with_reducible exact ehframe_Check.mono _ _ _)
     | (with_reducible exact ehframe_Put.mono _ _ _ _ _)
     | (with_reducible exact ehframe_low.mono _ _)
     | (with_reducible exact ehframe_record.mono _ _)
     | (with_reducible exact LeO.refl _)
     | (with_reducible exact LeO.none _)
     | (with_reducible refine LeO.ite ?_ ?_)
     | (with_reducible refine LeO.bind ?_ (fun _ => ?_))
     | exact ih0 _ _ _ _ _ _
     | exact ih1 _ _ _ _ _ _ _ _
     | exact ih2 _ _ _ _ _ _ _ _ _ _ _ _ _ _ _
     | exact cfa_Write.mono _ _
     | exact ehframe_Check.mono _ _ _
     | exact ehframe_Put.mono _ _ _ _ _
     | exact ehframe_low.mono _ _
     | exact ehframe_record.mono _ _
     | exact LeO.none _
     | refine LeO.ite ?_ ?_
     | refine LeO.bind ?_ (fun _ => ?_)
set_option maxHeartbeats 8000000 in
theorem ehframe_Write.calls (k : Nat) (A0 : Option Addr) (c0 : Nat) (l0 : List (S69)) (A1 : Option Addr) (c1 : Nat) (l1 : List (S46)) (a2 : Int) (a3 : Bool) (r1 : List Int) (r2 : List Int) (r3 : Int) (w : World) (hr0 : Kd.C k69 w A0 l0.length l0) (hc0 : l0.length ≤ c0) (hr1 : Kd.C k46 w A1 l1.length l1) (hc1 : l1.length ≤ c1) (h : ehframe_Write.f k l0 l1 a2 a3 = some (r1, r2, r3)) :
    Calls Try.prog 9 #[.slice A0 l0.length c0, .slice A1 l1.length c1, .int .i64 a2, .bool a3] w fun e w' => ∃ v0_ v1_ : Value, e = .returned (.tuple #[v0_, v1_, .int .i64 r3]) ∧ Kd.R (Kd.int .u8) 5 w' w.heap.size (fun _ => True) v0_ r1 ∧ Kd.R (Kd.int .i64) 3 w' w.heap.size (fun _ => True) v1_ r2 ∧ Below w.heap.size w w' := by
 have hu69 := Try.underlying69
 have hu46 := Try.underlying46
 have HR0 := am hr0
 have HC0 := am hc0
 clear hr0 hc0
 have HR1 := am hr1
 have HC1 := am hc1
 clear hr1 hc1
 have HB := am (Below.refl w.heap.size w)
 have H : ((ehframe_Check.f k l0 l1).bind fun t101 => (if t101 = 0 then (if a2 < 0 then (ehframe_Write.j0 k l0 l1 a2 a3 ([] : List Int) true) else (ehframe_Write.j0 k l0 l1 a2 a3 ([] : List Int) (decide (a2 > 576460752303423488)))) else (some (([] : List Int), ([] : List Int), t101)))) = some (r1, r2, r3) := h
 clear h
 replace H := Option.bind_eq_some_iff.mp H
 obtain ⟨t101, A50, H⟩ := H
 replace H : (if t101 = 0 then (if a2 < 0 then (ehframe_Write.j0 k l0 l1 a2 a3 ([] : List Int) true) else (ehframe_Write.j0 k l0 l1 a2 a3 ([] : List Int) (decide (a2 > 576460752303423488)))) else (some (([] : List Int), ([] : List Int), t101))) = some (r1, r2, r3) := H
 have A5 := am A50
 clear A50
 by_cases c6 : t101 = 0
 rotate_left
 ·
  rw [if_neg c6] at H
  have c6b0 : (t101 == 0) = false := beq_eq_false_iff_ne.mpr c6
  have c6b1 : (t101 != 0) = true := bne_iff_ne.mpr c6
  simp only [Option.some.injEq, Prod.mk.injEq] at H
  obtain ⟨rfl, rfl, rfl⟩ := H
  go_enter Try.func9, Try.ntmps9
  go_wp2_with (first | ((with_reducible refine gate_callee (f := 12) rfl ?_); refine goesL_ (some 27) rfl rfl Try.func12 (by kernel_rfl) rfl #[.slice A0 l0.length c0, .slice A1 l1.length c1] rfl (by simp only [ml]; try rfl) ?_; (with_reducible refine (ehframe_Check.calls k _ _ l0 _ _ l1 t101 _ ?side1 ?side2 ?side3 ?side4 A5.out).mono ?_); (case side1 => exact Kd.C_o HR0.out); (case side2 => exact HC0.out); (case side3 => exact Kd.C_o HR1.out); (case side4 => exact HC1.out); rintro e w127 ⟨rfl, hb⟩; refine ⟨_, rfl, ?_⟩; have n0_ := am (below_step (by exact bl_o HB.out) hb); clear HB; have HB := n0_; clear n0_))
  go_ret3
  exact ⟨_, _, rfl, by first | exact Kd.R_nil _ _ _ _ _ | exact Kd.N_nil _ _ _ _ _, by first | exact Kd.R_nil _ _ _ _ _ | exact Kd.N_nil _ _ _ _ _, by exact bl_g HB.out⟩
 rw [if_pos c6] at H
 have c6b0 : (t101 == 0) = true := beq_iff_eq.mpr c6
 have c6b1 : (t101 != 0) = false := bne_eq_false_iff_eq.mpr c6
 clear c6
 have HC7 := am H
 clear H
 go_enter Try.func9, Try.ntmps9
 go_upto_region 4 with (first | ((with_reducible refine gate_callee (f := 12) rfl ?_); refine goesL_ (some 27) rfl rfl Try.func12 (by kernel_rfl) rfl #[.slice A0 l0.length c0, .slice A1 l1.length c1] rfl (by simp only [ml]; try rfl) ?_; (with_reducible refine (ehframe_Check.calls k _ _ l0 _ _ l1 t101 _ ?side1 ?side2 ?side3 ?side4 A5.out).mono ?_); (case side1 => exact Kd.C_o HR0.out); (case side2 => exact HC0.out); (case side3 => exact Kd.C_o HR1.out); (case side4 => exact HC1.out); rintro e w8 ⟨rfl, hb⟩; refine ⟨_, rfl, ?_⟩; have n0_ := am (below_step (by exact bl_o HB.out) hb); clear HB; have HB := n0_; clear n0_))
 (try simp only [Act.put, List.setIfInBounds_toArray, List.set_cons_zero, List.set_cons_succ])
 go_cut [36] (fun v36 wc => ∃ (kq : Nat) (x36_6 : Bool), v36 = .bool x36_6 ∧ Aside0 (ehframe_Write.j0 kq l0 l1 a2 a3 ([] : List Int) x36_6 = some (r1, r2, r3)) ∧ Aside0 (kq ≤ k) ∧ Aside0 (Kd.R (Kd.int .u8) 5 wc w.heap.size (fun _ => True) (.slice none 0 0) ([] : List Int)) ∧ Aside0 (Below w.heap.size w wc))
 case first =>
  have H := HC7.out
  clear HC7
  by_cases c9 : a2 < 0
  ·
   rw [if_pos c9] at H
   have c9b0 : decide (a2 < 0) = true := decide_eq_true c9
   clear c9
   (first | rw [c9b0] | (simp only [i64_w, i32_w]; rw [c9b0]) | skip)
   have H' := am H
   clear H
   go_wp2
   go_meet
   case rel => exact ⟨_, (true), (by first | rfl | (simp; done) | (simp [*]; done)), H', ⟨by first | omega | exact Nat.le_refl _⟩, ⟨by first | exact Kd.R_nil _ _ _ _ _ | exact Kd.N_nil _ _ _ _ _⟩, ⟨by exact bl_g HB.out⟩⟩
  rw [if_neg c9] at H
  have c9b0 : decide (a2 < 0) = false := decide_eq_false c9
  clear c9
  (first | rw [c9b0] | (simp only [i64_w, i32_w]; rw [c9b0]) | skip)
  have H' := am H
  clear H
  go_wp2
  go_meet
  case rel => exact ⟨_, (decide (a2 > 576460752303423488)), (by first | rfl | (simp; done) | (simp [*]; done)), H', ⟨by first | omega | exact Nat.le_refl _⟩, ⟨by first | exact Kd.R_nil _ _ _ _ _ | exact Kd.N_nil _ _ _ _ _⟩, ⟨by exact bl_g HB.out⟩⟩
 case rest =>
  clear HC7
  try clear c1
  try clear p2
  try clear c6
  try clear c6b0
  try clear c6b1
  try clear c9
  try clear c9b0
  obtain ⟨kq, x36_6, rfl, HA, HJ6, HO_8, HB⟩ := hcut
  cases kq with
  | zero => exact absurd HA.out (by simp [ehframe_Write.j0])
  | succ kj6 =>
   have H := HA.out
   clear HA
   simp only [ehframe_Write.j0] at H
   by_cases c10 : x36_6 = true
   ·
    subst c10
    replace H : (some (([] : List Int), ([] : List Int), 11)) = some (r1, r2, r3) := by rw [if_pos rfl] at H; exact H
    simp only [Option.some.injEq, Prod.mk.injEq] at H
    obtain ⟨rfl, rfl, rfl⟩ := H
    go_wp2
    go_ret3
    exact ⟨_, _, rfl, by first | exact Kd.R_nil _ _ _ _ _ | exact Kd.N_nil _ _ _ _ _, by first | exact Kd.R_nil _ _ _ _ _ | exact Kd.N_nil _ _ _ _ _, by exact bl_g HB.out⟩
   replace c10 := Bool.eq_false_iff.mpr c10
   subst c10
   replace H : (if 0 ≤ (l1.length : Int) then (if ((l1.length : Int) : Int).toNat ≤ 35184372088832 then (ehframe_Write.l0 kj6 l1 a2 a3 ([] : List Int) (List.replicate ((l1.length : Int) : Int).toNat 0) l0 (l0.length : Int) 0) else (none)) else (none)) = some (r1, r2, r3) := by rw [if_neg (show ¬ (false = true) by decide)] at H; exact H
   by_cases c11 : 0 ≤ (l1.length : Int)
   rotate_left
   ·
    rw [if_neg c11] at H
    exact absurd H (by simp)
   rw [if_pos c11] at H
   have c11b0 := eq_true c11
   have c11b1 : decide (0 ≤ (l1.length : Int)) = true := decide_eq_true c11
   clear c11
   by_cases c12 : ((l1.length : Int) : Int).toNat ≤ 35184372088832
   rotate_left
   ·
    rw [if_neg c12] at H
    exact absurd H (by simp)
   rw [if_pos c12] at H
   have c12b0 := eq_true c12
   have c12b1 : decide (((l1.length : Int) : Int).toNat ≤ 35184372088832) = true := decide_eq_true c12
   clear c12
   obtain ⟨y102, hy102⟩ : ∃ y_ : List Int, y_ = (List.replicate ((l1.length : Int) : Int).toNat 0) := ⟨_, rfl⟩
   replace H : (ehframe_Write.l0 kj6 l1 a2 a3 ([] : List Int) y102 l0 (l0.length : Int) 0) = some (r1, r2, r3) := by first | (rw [hy102]; with_reducible exact H) | (have H2_ := (Option.bind_some _ _).symm.trans H; rw [hy102]; with_reducible exact H2_)
   have Ny102 := am hy102
   clear hy102
   have H' := am H
   clear H
   go_wp2_with (first | ((with_reducible refine gate_dst (N := 39) rfl ?_); refine Kd.R_make (Kd.int .i64) _ 3 rfl (N := 39) rfl 29 _ _ rfl (l1.length : Int) rfl rfl Try.underlying29 (.int .i64 0) 8 info3 rfl (by decide) (by omega) 0 (ok := fun _ => True) (okp := fun _ => True) rfl (fun _ hk => hk) trivial (od) (Nat.le_trans (Nat.mul_le_mul_right _ (od : (l1.length : Int).toNat ≤ 35184372088832)) (by omega)) (Below.refl _ _) (Nat.le_refl _) ?_; intro v103 w13 ho14 hb hg_ hnew_; clear hg_ hnew_; (first | rw [← Ny102.out] at ho14 | (simp only [Int.reduceToNat] at ho14; rw [← Ny102.out] at ho14)); refine mv3 (am (Kd.R_below (Kd.R_o HO_8.out) hb)) (am (Kd.R_lower ho14 (below_size (by exact bl_o HB.out)))) (am (below_step (by exact bl_o HB.out) hb)) ?_; clear HO_8 HB; intro HO_8 HO104 HB; clear hb ho14))
   go_loopg [8, 9, 42] kj6 (fun kq v8 v9 v42 w' => ∃ (x8_2 : List Int) (x9_2 : List Int) (x42_2 : Int), v42 = .int .i64 x42_2 ∧ Aside0 (ehframe_Write.l0 kq l1 a2 a3 x8_2 x9_2 l0 (l0.length : Int) x42_2 = some (r1, r2, r3)) ∧ Aside0 (kq ≤ kj6) ∧ Aside0 (Kd.R (Kd.int .u8) 5 w' w.heap.size (fun _ => True) v8 x8_2) ∧ Aside0 (Kd.R (Kd.int .i64) 3 w' w.heap.size (fun _ => True) v9 x9_2) ∧ Aside0 (Below w.heap.size w w'))
   case atStart => exact ⟨(([] : List Int)), (y102), (0), (by first | rfl | (simp; done) | (simp [*]; done)), H', ⟨Nat.le_refl _⟩, ⟨by (with_reducible repeat (first | apply Kd.R_alloc | apply Kd.R_drewN | apply Kd.R_drew)); exact HO_8.out⟩, ⟨by (with_reducible repeat (first | apply Kd.R_alloc | apply Kd.R_drewN | apply Kd.R_drew)); exact HO104.out⟩, ⟨by exact bl_g HB.out⟩⟩
   case round =>
    clear H'
    try clear c1
    try clear p2
    try clear c6
    try clear c6b0
    try clear c6b1
    try clear c9
    try clear c9b0
    try clear c10
    try clear c11
    try clear c11b0
    try clear c11b1
    try clear c12
    try clear c12b0
    try clear c12b1
    try clear p2
    obtain ⟨x8_2, x9_2, x42_2, rfl, HA, HK2, HO_8, HO_9, HB⟩ := hrel
    cases gk with
    | zero => exact absurd HA.out (by simp [ehframe_Write.l0])
    | succ k2 =>
     have H := HA.out
     clear HA
     simp only [ehframe_Write.l0] at H
     by_cases c15 : x42_2 < (l0.length : Int)
     rotate_left
     ·
      rw [if_neg c15] at H
      have c15b0 : decide (x42_2 < (l0.length : Int)) = false := decide_eq_false c15
      clear c15
      by_cases c111 : a3 = true
      rotate_left
      ·
       replace c111 := Bool.eq_false_iff.mpr c111
       subst c111
       replace H : (if (x8_2.length : Int) > 1048576 then (some (([] : List Int), ([] : List Int), 6)) else (some (x8_2, x9_2, 0))) = some (r1, r2, r3) := by rw [if_neg (show ¬ (false = true) by decide)] at H; exact H
       by_cases c124 : (x8_2.length : Int) > 1048576
       ·
        rw [if_pos c124] at H
        have c124b0 : decide (1048576 < (x8_2.length : Int)) = true := decide_eq_true c124
        have c124b1 : decide (1048576 < x8_2.length) = true := decide_eq_true (by omega)
        clear c124
        simp only [Option.some.injEq, Prod.mk.injEq] at H
        obtain ⟨rfl, rfl, rfl⟩ := H
        obtain ⟨Ao125, co125, eo125⟩ := Kd.R_slice HO_8.out
        subst eo125
        go_wp2
        go_ret3
        exact ⟨_, _, rfl, by first | exact Kd.R_nil _ _ _ _ _ | exact Kd.N_nil _ _ _ _ _, by first | exact Kd.R_nil _ _ _ _ _ | exact Kd.N_nil _ _ _ _ _, by exact bl_g HB.out⟩
       rw [if_neg c124] at H
       have c124b0 : decide (1048576 < (x8_2.length : Int)) = false := decide_eq_false c124
       have c124b1 : decide (1048576 < x8_2.length) = false := decide_eq_false (by omega)
       clear c124
       simp only [Option.some.injEq, Prod.mk.injEq] at H
       obtain ⟨rfl, rfl, rfl⟩ := H
       obtain ⟨Ao126, co126, eo126⟩ := Kd.R_slice HO_8.out
       subst eo126
       go_wp2
       go_ret3
       exact ⟨_, _, rfl, by (with_reducible repeat (first | apply Kd.R_alloc | apply Kd.R_drewN | apply Kd.R_drew)); exact HO_8.out, by (with_reducible repeat (first | apply Kd.R_alloc | apply Kd.R_drewN | apply Kd.R_drew)); exact HO_9.out, by exact bl_g HB.out⟩
      subst c111
      replace H : ((some (([0, 0, 0, 0] : List Int) : List Int)).bind fun y159 => (if x8_2.length + y159.length < 140737488355328 then ((some (x8_2 ++ y159 : List Int)).bind fun y162 => (if (y162.length : Int) > 1048576 then (some (([] : List Int), ([] : List Int), 6)) else (some (y162, x9_2, 0)))) else (none))) = some (r1, r2, r3) := by rw [if_pos rfl] at H; exact H
      obtain ⟨y159, hy159⟩ : ∃ y_ : List Int, y_ = (([0, 0, 0, 0] : List Int)) := ⟨_, rfl⟩
      replace H : (if x8_2.length + y159.length < 140737488355328 then ((some (x8_2 ++ y159 : List Int)).bind fun y162 => (if (y162.length : Int) > 1048576 then (some (([] : List Int), ([] : List Int), 6)) else (some (y162, x9_2, 0)))) else (none)) = some (r1, r2, r3) := by first | (rw [hy159]; with_reducible exact H) | (have H2_ := (Option.bind_some _ _).symm.trans H; rw [hy159]; with_reducible exact H2_)
      have Ny159 := am hy159
      clear hy159
      by_cases c112 : x8_2.length + y159.length < 140737488355328
      rotate_left
      ·
       rw [if_neg c112] at H
       exact absurd H (by simp)
      rw [if_pos c112] at H
      have LMc112 := am c112
      clear c112
      obtain ⟨y162, hy162⟩ : ∃ y_ : List Int, y_ = (x8_2 ++ y159) := ⟨_, rfl⟩
      replace H : (if (y162.length : Int) > 1048576 then (some (([] : List Int), ([] : List Int), 6)) else (some (y162, x9_2, 0))) = some (r1, r2, r3) := by first | (rw [hy162]; with_reducible exact H) | (have H2_ := (Option.bind_some _ _).symm.trans H; rw [hy162]; with_reducible exact H2_)
      have Ny162 := am hy162
      clear hy162
      by_cases c113 : (y162.length : Int) > 1048576
      ·
       rw [if_pos c113] at H
       have c113b0 : decide (1048576 < (y162.length : Int)) = true := decide_eq_true c113
       have c113b1 : decide (1048576 < y162.length) = true := decide_eq_true (by omega)
       clear c113
       simp only [Option.some.injEq, Prod.mk.injEq] at H
       obtain ⟨rfl, rfl, rfl⟩ := H
       go_wp2_with (first | ((with_reducible refine gate_dst (N := 134) rfl ?_); refine Kd.R_lit (Kd.int .u8) _ 5 ?hg (N := 134) ?hd (xs := ([0, 0, 0, 0] : List Int)) (inner := [.int .u8 0, .int .u8 0, .int .u8 0, .int .u8 0]) (ok := fun _ => True) (okp := fun _ => True) ?hr ?hp (fun _ hk => hk) trivial (Below.refl _ _) (Nat.le_refl _) (by simp) ?_; (case hd => rfl); (case hg => rfl); (case hr => go_simp; try rfl); (case hp => exact (Reps.one (show Kd.M (Kd.int .u8) _ _ _ 0 [.int .u8 0] from rfl) (Reps.one (show Kd.M (Kd.int .u8) _ _ _ 0 [.int .u8 0] from rfl) (Reps.one (show Kd.M (Kd.int .u8) _ _ _ 0 [.int .u8 0] from rfl) (Reps.one (show Kd.M (Kd.int .u8) _ _ _ 0 [.int .u8 0] from rfl) (Reps.none _ _)))))); intro v160 w114 ho115 hb hg_ hnew_; clear hg_ hnew_; (first | rw [← Ny159.out] at ho115 | (simp only [Int.reduceToNat] at ho115; rw [← Ny159.out] at ho115)); refine mv4 (am (Kd.R_elder' (Kd.R_o HO_8.out) (Kd.R_base ho115) hb)) (am (Kd.R_below (Kd.R_o HO_9.out) hb)) (am (Kd.R_lower (Kd.R_new' ho115 (Kd.R_lt (Kd.R_o HO_8.out))) (below_size (by exact bl_o HB.out)))) (am (below_step (by exact bl_o HB.out) hb)) ?_; clear HO_8 HO_9 HB; intro HO_8 HO_9 HO161 HB; clear hb ho115; obtain ⟨Ao117, co117, eo117⟩ := Kd.R_slice HO161.out; subst eo117) | ((with_reducible refine gate_builtin (b := .append) (xs := #[.tmp 133, .tmp 134]) rfl ?_); at_builtin; refine Kd.R_append_rows (Kd.int .u8) (w0 := w) w.heap.size rfl (.tmp 133) (.tmp 134) 28 5 (.int .u8 0) 1 rfl Try.underlying28 info5 rfl (by decide) (by omega) u8 x8_2 y159 _ _ _ (fun k_ => some k_ ≠ (.slice Ao117 y159.length co117 : Value).ownBlock) (fun _ => False) rfl rfl ?aO ?aR (fun _ _ h => h) (fun _ h => h.elim) ?aF ?aB ?aS ?aL ?_; (case aR => exact Kd.C_o ((Kd.R_reads' HO161.out).2.2)); (case aB => exact (by exact bl_o HB.out)); (case aF => exact (fun k_ hk => Kd.fresh' (Kd.R_lt (Kd.R_o HO161.out)) k_ hk)); (case aO => exact (Kd.R_o (Kd.R_mono HO_8.out (fun _ hk => hk.2)))); (case aS => exact (below_size (by exact bl_o HB.out))); (case aL => have := LMc112.out; omega); intro v163 w116 ho hb hg hat; rw [← Ny162.out] at ho; refine mv4 (am (Kd.R_over' (Kd.R_o HO_9.out) (Kd.R_typed (Kd.R_o HO_8.out)) (by decide) hg)) (am (Kd.R_after (ok := (fun _ => True)) (Kd.R_o HO161.out) hg hat)) (am (hb)) (am (ho)) ?_; clear HO_9 HO161 HB HO_8; intro HO_9 HO161 HB HO164; clear ho hb hg hat; obtain ⟨Ao118, co118, eo118⟩ := Kd.R_slice HO164.out; subst eo118))
       go_ret3
       exact ⟨_, _, rfl, by first | exact Kd.R_nil _ _ _ _ _ | exact Kd.N_nil _ _ _ _ _, by first | exact Kd.R_nil _ _ _ _ _ | exact Kd.N_nil _ _ _ _ _, by exact bl_g HB.out⟩
      rw [if_neg c113] at H
      have c113b0 : decide (1048576 < (y162.length : Int)) = false := decide_eq_false c113
      have c113b1 : decide (1048576 < y162.length) = false := decide_eq_false (by omega)
      clear c113
      simp only [Option.some.injEq, Prod.mk.injEq] at H
      obtain ⟨rfl, rfl, rfl⟩ := H
      go_wp2_with (first | ((with_reducible refine gate_dst (N := 134) rfl ?_); refine Kd.R_lit (Kd.int .u8) _ 5 ?hg (N := 134) ?hd (xs := ([0, 0, 0, 0] : List Int)) (inner := [.int .u8 0, .int .u8 0, .int .u8 0, .int .u8 0]) (ok := fun _ => True) (okp := fun _ => True) ?hr ?hp (fun _ hk => hk) trivial (Below.refl _ _) (Nat.le_refl _) (by simp) ?_; (case hd => rfl); (case hg => rfl); (case hr => go_simp; try rfl); (case hp => exact (Reps.one (show Kd.M (Kd.int .u8) _ _ _ 0 [.int .u8 0] from rfl) (Reps.one (show Kd.M (Kd.int .u8) _ _ _ 0 [.int .u8 0] from rfl) (Reps.one (show Kd.M (Kd.int .u8) _ _ _ 0 [.int .u8 0] from rfl) (Reps.one (show Kd.M (Kd.int .u8) _ _ _ 0 [.int .u8 0] from rfl) (Reps.none _ _)))))); intro v160 w119 ho120 hb hg_ hnew_; clear hg_ hnew_; (first | rw [← Ny159.out] at ho120 | (simp only [Int.reduceToNat] at ho120; rw [← Ny159.out] at ho120)); refine mv4 (am (Kd.R_elder' (Kd.R_o HO_8.out) (Kd.R_base ho120) hb)) (am (Kd.R_below (Kd.R_o HO_9.out) hb)) (am (Kd.R_lower (Kd.R_new' ho120 (Kd.R_lt (Kd.R_o HO_8.out))) (below_size (by exact bl_o HB.out)))) (am (below_step (by exact bl_o HB.out) hb)) ?_; clear HO_8 HO_9 HB; intro HO_8 HO_9 HO161 HB; clear hb ho120; obtain ⟨Ao122, co122, eo122⟩ := Kd.R_slice HO161.out; subst eo122) | ((with_reducible refine gate_builtin (b := .append) (xs := #[.tmp 133, .tmp 134]) rfl ?_); at_builtin; refine Kd.R_append_rows (Kd.int .u8) (w0 := w) w.heap.size rfl (.tmp 133) (.tmp 134) 28 5 (.int .u8 0) 1 rfl Try.underlying28 info5 rfl (by decide) (by omega) u8 x8_2 y159 _ _ _ (fun k_ => some k_ ≠ (.slice Ao122 y159.length co122 : Value).ownBlock) (fun _ => False) rfl rfl ?aO ?aR (fun _ _ h => h) (fun _ h => h.elim) ?aF ?aB ?aS ?aL ?_; (case aR => exact Kd.C_o ((Kd.R_reads' HO161.out).2.2)); (case aB => exact (by exact bl_o HB.out)); (case aF => exact (fun k_ hk => Kd.fresh' (Kd.R_lt (Kd.R_o HO161.out)) k_ hk)); (case aO => exact (Kd.R_o (Kd.R_mono HO_8.out (fun _ hk => hk.2)))); (case aS => exact (below_size (by exact bl_o HB.out))); (case aL => have := LMc112.out; omega); intro v163 w121 ho hb hg hat; rw [← Ny162.out] at ho; refine mv4 (am (Kd.R_over' (Kd.R_o HO_9.out) (Kd.R_typed (Kd.R_o HO_8.out)) (by decide) hg)) (am (Kd.R_after (ok := (fun _ => True)) (Kd.R_o HO161.out) hg hat)) (am (hb)) (am (ho)) ?_; clear HO_9 HO161 HB HO_8; intro HO_9 HO161 HB HO164; clear ho hb hg hat; obtain ⟨Ao123, co123, eo123⟩ := Kd.R_slice HO164.out; subst eo123))
      go_ret3
      exact ⟨_, _, rfl, by (with_reducible repeat (first | apply Kd.R_alloc | apply Kd.R_drewN | apply Kd.R_drew)); exact Kd.R_mono HO164.out (fun _ hk => trivial), by (with_reducible repeat (first | apply Kd.R_alloc | apply Kd.R_drewN | apply Kd.R_drew)); exact HO_9.out, by exact bl_g HB.out⟩
     rw [if_pos c15] at H
     have c15b0 : decide (x42_2 < (l0.length : Int)) = true := decide_eq_true c15
     clear c15
     by_cases c16 : 0 ≤ x42_2
     rotate_left
     ·
      rw [if_neg c16] at H
      exact absurd H (by simp)
     rw [if_pos c16] at H
     have c16b0 : decide (0 ≤ x42_2) = true := decide_eq_true c16
     clear c16
     by_cases c17 : x42_2 < (l0.length : Int)
     rotate_left
     ·
      rw [if_neg c17] at H
      exact absurd H (by simp)
     rw [if_pos c17] at H
     have c17b0 : decide (x42_2 < (l0.length : Int)) = true := decide_eq_true c17
     clear c17
     replace H := Option.bind_eq_some_iff.mp H
     obtain ⟨⟨t107, t108⟩, A180, H⟩ := H
     replace H : ((ehframe_head.f ((rd_T69 l0 x42_2).f0)).bind fun t111 => (if t111.length + t107.length < 140737488355328 then ((ehframe_record.f k2 (t111 ++ t107)).bind fun t117 => (if x8_2.length + t117.length < 140737488355328 then (ehframe_Write.l1 k2 l1 a2 a3 (x8_2 ++ t117) x9_2 x42_2 (x8_2.length : Int) l0 (l0.length : Int) x42_2 l1 (l1.length : Int) 0 ((rd_T69 l0 x42_2).f0) ((rd_T69 l0 x42_2).f1)) else (none))) else (none))) = some (r1, r2, r3) := H
     have A18 := am A180
     clear A180
     replace H := Option.bind_eq_some_iff.mp H
     obtain ⟨t111, A190, H⟩ := H
     replace H : (if t111.length + t107.length < 140737488355328 then ((ehframe_record.f k2 (t111 ++ t107)).bind fun t117 => (if x8_2.length + t117.length < 140737488355328 then (ehframe_Write.l1 k2 l1 a2 a3 (x8_2 ++ t117) x9_2 x42_2 (x8_2.length : Int) l0 (l0.length : Int) x42_2 l1 (l1.length : Int) 0 ((rd_T69 l0 x42_2).f0) ((rd_T69 l0 x42_2).f1)) else (none))) else (none)) = some (r1, r2, r3) := H
     have A19 := am A190
     clear A190
     by_cases c20 : t111.length + t107.length < 140737488355328
     rotate_left
     ·
      rw [if_neg c20] at H
      exact absurd H (by simp)
     rw [if_pos c20] at H
     have LMc20 := am c20
     clear c20
     obtain ⟨y114, hy114⟩ : ∃ y_ : List Int, y_ = (t111 ++ t107) := ⟨_, rfl⟩
     replace H : ((ehframe_record.f k2 y114).bind fun t117 => (if x8_2.length + t117.length < 140737488355328 then (ehframe_Write.l1 k2 l1 a2 a3 (x8_2 ++ t117) x9_2 x42_2 (x8_2.length : Int) l0 (l0.length : Int) x42_2 l1 (l1.length : Int) 0 ((rd_T69 l0 x42_2).f0) ((rd_T69 l0 x42_2).f1)) else (none))) = some (r1, r2, r3) := by first | (rw [hy114]; with_reducible exact H) | (have H2_ := (Option.bind_some _ _).symm.trans H; rw [hy114]; with_reducible exact H2_)
     have Ny114 := am hy114
     clear hy114
     replace H := Option.bind_eq_some_iff.mp H
     obtain ⟨t117, A210, H⟩ := H
     replace H : (if x8_2.length + t117.length < 140737488355328 then (ehframe_Write.l1 k2 l1 a2 a3 (x8_2 ++ t117) x9_2 x42_2 (x8_2.length : Int) l0 (l0.length : Int) x42_2 l1 (l1.length : Int) 0 ((rd_T69 l0 x42_2).f0) ((rd_T69 l0 x42_2).f1)) else (none)) = some (r1, r2, r3) := H
     have A21 := am A210
     clear A210
     by_cases c22 : x8_2.length + t117.length < 140737488355328
     rotate_left
     ·
      rw [if_neg c22] at H
      exact absurd H (by simp)
     rw [if_pos c22] at H
     have LMc22 := am c22
     clear c22
     obtain ⟨y120, hy120⟩ : ∃ y_ : List Int, y_ = (x8_2 ++ t117) := ⟨_, rfl⟩
     replace H : (ehframe_Write.l1 k2 l1 a2 a3 y120 x9_2 x42_2 (x8_2.length : Int) l0 (l0.length : Int) x42_2 l1 (l1.length : Int) 0 ((rd_T69 l0 x42_2).f0) ((rd_T69 l0 x42_2).f1)) = some (r1, r2, r3) := by first | (rw [hy120]; with_reducible exact H) | (have H2_ := (Option.bind_some _ _).symm.trans H; rw [hy120]; with_reducible exact H2_)
     have Ny120 := am hy120
     clear hy120
     have H' := am H
     clear H
     have p105 : 0 ≤ (x42_2 : Int) := od
     have q105 : x42_2 < (l0.length : Int) := od
     obtain ⟨ad105, A105_1, c105_1, e105, hx105_0, hx105_1, hl105_1, hi105_1⟩ := at_T69 HR0.out x42_2 p105 q105
     cases e105
     replace hx105_0 := oc HB.out hx105_0
     replace hx105_1 := oc HB.out hx105_1
     have HR105_1 := am hi105_1
     have HC105_1 := am hl105_1
     clear hi105_1 hl105_1
     replace p105 := eq_true p105
     replace q105 := eq_true q105
     go_wp2_with (first | ((with_reducible refine gate_dst (N := 13) rfl ?_); refine box_event ?hg (N := 13) ?hd (cs := #[.int .i64 0, .slice none 0 0]) (t := 69) ?hr ?_; (case hd => rfl); (case hg => rfl); (case hr => go_simp; try rfl); intro gb106 hg w23 hbox hb; refine mv5 (am (Kd.R_below (Kd.R_o HO_8.out) hb)) (am (Kd.R_below (Kd.R_o HO_9.out) hb)) (am (below_step (by exact bl_o HB.out) hb)) (am (hbox)) (lei (by rw [hg]; exact (below_size (by exact bl_o HB.out)) : w.heap.size ≤ gb106)) ?_; clear HO_8 HO_9 HB; intro HO_8 HO_9 HB BK106 GW106; have GE106 := GW106; clear hb hbox hg; obtain ⟨hcz24_0, hcz24_1, hfz24_0, hfz24_1⟩ := cells2 BK106.out; obtain ⟨Ao25, co25, eo25⟩ := Kd.R_slice HO_8.out; subst eo25) | ((with_reducible refine gate_callee (f := 23) rfl ?_); refine goesL_ (some 52) rfl rfl Try.func23 (by kernel_rfl) rfl #[.slice A105_1 ((rd_T69 l0 x42_2).f1).length c105_1] rfl (by simp only [ml]; try rfl) ?_; (with_reducible refine (cfa_Write.calls k2 _ _ ((rd_T69 l0 x42_2).f1) t107 t108 _ ?side1 ?side2 A18.out).mono ?_); (case side1 => exact Kd.C_below HR105_1.out (by exact bl_g HB.out)); (case side2 => exact HC105_1.out); rintro e w26 ⟨v109, rfl, ho0, hb⟩; refine ⟨_, rfl, ?_⟩; refine mv5 (am (Kd.R_elder' (Kd.R_o (Kd.R_mono (Kd.R_far (p := ⟨gb106, 1, none⟩) (Kd.R_far (p := ⟨gb106, 0, none⟩) (Kd.R_types HO_8.out BK106.out (by decide)) (fun _ hk => hk.2) (.int .i64 ((rd_T69 l0 x42_2).f0))) (fun _ hk => hk.2) (.slice A105_1 ((rd_T69 l0 x42_2).f1).length c105_1)) (fun _ h_ => h_.1))) (Kd.R_base ho0) hb)) (am (Kd.R_below (Kd.R_o (Kd.R_mono (Kd.R_far (p := ⟨gb106, 1, none⟩) (Kd.R_far (p := ⟨gb106, 0, none⟩) (Kd.R_types HO_9.out BK106.out (by decide)) (fun _ hk => hk.2) (.int .i64 ((rd_T69 l0 x42_2).f0))) (fun _ hk => hk.2) (.slice A105_1 ((rd_T69 l0 x42_2).f1).length c105_1)) (fun _ h_ => h_.1))) hb)) (am (Kd.R_lower (Kd.R_new' ho0 (Kd.R_lt (Kd.R_o (Kd.R_mono (Kd.R_far (p := ⟨gb106, 1, none⟩) (Kd.R_far (p := ⟨gb106, 0, none⟩) (Kd.R_types HO_8.out BK106.out (by decide)) (fun _ hk => hk.2) (.int .i64 ((rd_T69 l0 x42_2).f0))) (fun _ hk => hk.2) (.slice A105_1 ((rd_T69 l0 x42_2).f1).length c105_1)) (fun _ h_ => h_.1))))) (below_size (by exact bl_g HB.out)))) (am (blk_below (g := gb106) (o := .cells #[.int .i64 ((rd_T69 l0 x42_2).f0), .slice A105_1 ((rd_T69 l0 x42_2).f1).length c105_1] 69 (0, 0)) (bps BK106.out rfl) hb)) (am (below_step (by exact bl_g HB.out) hb)) ?_; clear HO_8 HO_9 BK106 HB; intro HO_8 HO_9 HO110 BK106 HB; obtain ⟨hcz27_0, hcz27_1, hfz27_0, hfz27_1⟩ := cells2 BK106.out) | ((with_reducible refine gate_callee (f := 25) rfl ?_); refine goesL_ (some 58) rfl rfl Try.func25 (by kernel_rfl) rfl #[.int .i64 ((rd_T69 l0 x42_2).f0)] rfl (by simp only [ml]; try rfl) ?_; (with_reducible refine (ehframe_head.calls ((rd_T69 l0 x42_2).f0) t111 _ A19.out).mono ?_); rintro e w28 ⟨v112, rfl, ho0, hb⟩; refine ⟨_, rfl, ?_⟩; refine mv6 (am (Kd.R_elder' (Kd.R_o HO_8.out) (Kd.R_base ho0) hb)) (am (Kd.R_below (Kd.R_o HO_9.out) hb)) (am (Kd.R_elder' (Kd.R_o HO110.out) (Kd.R_base ho0) hb)) (am (Kd.R_lower (Kd.R_new' (Kd.R_new' ho0 (Kd.R_lt (Kd.R_o HO_8.out))) (Kd.R_lt (Kd.R_o HO110.out))) (below_size (by exact bl_g HB.out)))) (am (blk_below (blk_o BK106.out) hb)) (am (below_step (by exact bl_g HB.out) hb)) ?_; clear HO_8 HO_9 HO110 BK106 HB; intro HO_8 HO_9 HO110 HO113 BK106 HB; obtain ⟨Ao30, co30, eo30⟩ := Kd.R_slice HO110.out; subst eo30) | ((with_reducible refine gate_builtin (b := .append) (xs := #[.tmp 58, .tmp 59]) rfl ?_); at_builtin; refine Kd.R_append_rows (Kd.int .u8) (w0 := w) w.heap.size rfl (.tmp 58) (.tmp 59) 28 5 (.int .u8 0) 1 rfl Try.underlying28 info5 rfl (by decide) (by omega) v112 t111 t107 _ _ _ (fun k_ => some k_ ≠ (.slice Ao25 x8_2.length co25 : Value).ownBlock ∧ some k_ ≠ (.slice Ao30 t107.length co30 : Value).ownBlock) (fun _ => False) rfl rfl ?aO ?aR (fun _ _ h => h) (fun _ h => h.elim) ?aF ?aB ?aS ?aL ?_; (case aR => exact Kd.C_o ((Kd.R_reads' HO110.out).2.2)); (case aB => exact (by exact bl_g HB.out)); (case aF => exact (fun k_ hk => ⟨Kd.fresh' (Kd.R_lt (Kd.R_o HO_8.out)) k_ hk, Kd.fresh' (Kd.R_lt (Kd.R_o HO110.out)) k_ hk⟩)); (case aO => exact (Kd.R_o (Kd.R_mono HO113.out (fun _ hk => ⟨hk.1.2, hk.2⟩)))); (case aS => exact (below_size (by exact bl_g HB.out))); (case aL => have := LMc20.out; omega); intro v115 w29 ho hb hg hat; rw [← Ny114.out] at ho; refine mv6 (am (Kd.R_after (ok := (fun k_ => some k_ ≠ (.slice Ao30 t107.length co30 : Value).ownBlock)) (Kd.R_o (Kd.R_mono HO_8.out (fun _ hk => ⟨hk.1.2, hk.2⟩))) hg hat)) (am (Kd.R_over' (Kd.R_o HO_9.out) (Kd.R_typed (Kd.R_o HO113.out)) (by decide) hg)) (am (blk_grown (g := gb106) (o := .cells #[.int .i64 ((rd_T69 l0 x42_2).f0), .slice A105_1 ((rd_T69 l0 x42_2).f1).length c105_1] 69 (0, 0)) (blk_o BK106.out) hg (Kd.R_ne HO113.out BK106.out (by decide)))) (am (Kd.R_after (ok := (fun k_ => some k_ ≠ (.slice Ao25 x8_2.length co25 : Value).ownBlock)) (Kd.R_o (Kd.R_mono HO110.out (fun _ hk => ⟨hk.1.2, hk.2⟩))) hg hat)) (am (hb)) (am (ho)) ?_; clear HO_8 HO_9 BK106 HO110 HB HO113; intro HO_8 HO_9 BK106 HO110 HB HO116; clear ho hb hg hat; obtain ⟨Ao31, co31, eo31⟩ := Kd.R_slice HO116.out; subst eo31) | ((with_reducible refine gate_callee (f := 24) rfl ?_); refine goesL_ (some 61) rfl rfl Try.func24 (by kernel_rfl) rfl #[.slice Ao31 y114.length co31] rfl (by simp only [ml]; try rfl) ?_; (with_reducible refine (ehframe_record.calls k2 (fun k_ => some k_ = (.slice Ao31 y114.length co31 : Value).ownBlock) (.slice Ao31 y114.length co31) y114 t117 w _ ?side1 ?side2 A21.out).mono ?_); (case side1 => repeat (first | (with_reducible first | exact HB.out | apply below_alloc | apply pw_below_drewN | apply below_drew1 | refine below_set ?_ GE106.out) | exact HB.out)); (case side2 => exact Kd.R_tight rfl HO116.out); rintro e w32 ⟨v118, rfl, ho0, hb, hkp⟩; refine ⟨_, rfl, ?_⟩; refine mv6 (am (Kd.R_mono (ok' := fun k_ => some k_ ≠ (.slice Ao30 t107.length co30 : Value).ownBlock ∧ some k_ ≠ (v118 : Value).ownBlock) (Kd.R_keptB (HO_8.out) hkp (fun k_ hk_ hs_ => (hk_.2) hs_)) (fun k_ hk_ => ⟨hk_.1.1, fun e_ => Or.elim (ho0.1 k_ e_.symm) (fun hs_ => hk_.2.1 hs_) (fun hn_ => Nat.not_le.2 hk_.2.2 hn_)⟩))) (am (Kd.R_mono (ok' := fun k_ => True) (Kd.R_keptB ((Kd.R_apart' HO_9.out (Kd.R_typed HO116.out) (by decide))) hkp (fun k_ hk_ hs_ => (hk_.2) hs_)) (fun k_ hk_ => trivial))) (am (blk_kept (blk_o BK106.out) hkp (fun hs_ => (fun e_ => (Kd.R_ne HO116.out BK106.out (by decide)) e_) hs_))) (am (Kd.R_mono (ok' := fun k_ => some k_ ≠ (.slice Ao25 x8_2.length co25 : Value).ownBlock ∧ some k_ ≠ (v118 : Value).ownBlock) (Kd.R_keptB (HO110.out) hkp (fun k_ hk_ hs_ => (hk_.2) hs_)) (fun k_ hk_ => ⟨hk_.1.1, fun e_ => Or.elim (ho0.1 k_ e_.symm) (fun hs_ => hk_.2.1 hs_) (fun hn_ => Nat.not_le.2 hk_.2.2 hn_)⟩))) (am (Kd.R_mono (ok' := fun k_ => some k_ ≠ (.slice Ao25 x8_2.length co25 : Value).ownBlock ∧ some k_ ≠ (.slice Ao30 t107.length co30 : Value).ownBlock) ho0 (fun k_ hk_ => ⟨Or.elim hk_ (fun hs_ => fun e_ => (((HO_8.out).1 k_ e_.symm).2) hs_) (fun hn_ => (Kd.fresh' (Kd.R_lt (Kd.R_o HO_8.out)) k_ hn_)), Or.elim hk_ (fun hs_ => fun e_ => (((HO110.out).1 k_ e_.symm).2) hs_) (fun hn_ => (Kd.fresh' (Kd.R_lt (Kd.R_o HO110.out)) k_ hn_))⟩))) (am (hb)) ?_; clear HO_8 HO_9 BK106 HO110 HB HO116; intro HO_8 HO_9 BK106 HO110 HO119 HB; (try clear hb); (try clear hkp); (try clear ho0); obtain ⟨Ao34, co34, eo34⟩ := Kd.R_slice HO119.out; subst eo34) | ((with_reducible refine gate_builtin (b := .append) (xs := #[.tmp 55, .tmp 61]) rfl ?_); at_builtin; refine Kd.R_append_rows (Kd.int .u8) (w0 := w) w.heap.size rfl (.tmp 55) (.tmp 61) 28 5 (.int .u8 0) 1 rfl Try.underlying28 info5 rfl (by decide) (by omega) (.slice Ao25 x8_2.length co25) x8_2 t117 _ _ _ (fun k_ => some k_ ≠ (.slice Ao30 t107.length co30 : Value).ownBlock ∧ some k_ ≠ (.slice Ao34 t117.length co34 : Value).ownBlock) (fun _ => False) rfl rfl ?aO ?aR (fun _ _ h => h) (fun _ h => h.elim) ?aF ?aB ?aS ?aL ?_; (case aR => exact Kd.C_o ((Kd.R_reads' HO119.out).2.2)); (case aB => exact (by exact bl_g HB.out)); (case aF => exact (fun k_ hk => ⟨Kd.fresh' (Kd.R_lt (Kd.R_o HO110.out)) k_ hk, Kd.fresh' (Kd.R_lt (Kd.R_o HO119.out)) k_ hk⟩)); (case aO => exact (Kd.R_o HO_8.out)); (case aS => exact (below_size (by exact bl_g HB.out))); (case aL => have := LMc22.out; omega); intro v121 w33 ho hb hg hat; rw [← Ny120.out] at ho; refine mv6 (am (Kd.R_over' (Kd.R_o HO_9.out) (Kd.R_typed (Kd.R_o HO_8.out)) (by decide) hg)) (am (blk_grown (g := gb106) (o := .cells #[.int .i64 ((rd_T69 l0 x42_2).f0), .slice A105_1 ((rd_T69 l0 x42_2).f1).length c105_1] 69 (0, 0)) (blk_o BK106.out) hg (Kd.R_ne HO_8.out BK106.out (by decide)))) (am (Kd.R_after (ok := (fun k_ => some k_ ≠ (.slice Ao34 t117.length co34 : Value).ownBlock)) (Kd.R_o (Kd.R_mono HO110.out (fun _ hk => ⟨hk.2, hk.1⟩))) hg hat)) (am (Kd.R_after (ok := (fun k_ => some k_ ≠ (.slice Ao30 t107.length co30 : Value).ownBlock)) (Kd.R_o (Kd.R_mono HO119.out (fun _ hk => ⟨hk.2, hk.1⟩))) hg hat)) (am (hb)) (am (ho)) ?_; clear HO_9 BK106 HO110 HO119 HB HO_8; intro HO_9 BK106 HO110 HO119 HB HO122; clear ho hb hg hat))
     go_loopg [8, 9, 65] k2 (fun kq v8 v9 v65 w' => ∃ (x8_3 : List Int) (x9_3 : List Int) (x65_3 : Int), v65 = .int .i64 x65_3 ∧ Aside0 (ehframe_Write.l1 kq l1 a2 a3 x8_3 x9_3 x42_2 (x8_2.length : Int) l0 (l0.length : Int) x42_2 l1 (l1.length : Int) x65_3 ((rd_T69 l0 x42_2).f0) ((rd_T69 l0 x42_2).f1) = some (r1, r2, r3)) ∧ Aside0 (kq ≤ k2) ∧ Aside0 (Kd.R (Kd.int .u8) 5 w' w.heap.size (fun _ => True) v8 x8_3) ∧ Aside0 (Kd.R (Kd.int .i64) 3 w' w.heap.size (fun _ => True) v9 x9_3) ∧ Aside0 (w'.heap[gb106]? = some (.cells #[.int .i64 ((rd_T69 l0 x42_2).f0), (.slice A105_1 ((rd_T69 l0 x42_2).f1).length c105_1)] 69 (0, 0))) ∧ Aside0 (Below w.heap.size w w'))
     case atStart => exact ⟨(y120), (x9_2), (0), (by first | rfl | (simp; done) | (simp [*]; done)), H', ⟨Nat.le_refl _⟩, ⟨by (with_reducible repeat (first | apply Kd.R_alloc | apply Kd.R_drewN | apply Kd.R_drew)); exact Kd.R_mono HO122.out (fun _ hk => trivial)⟩, ⟨by (with_reducible repeat (first | apply Kd.R_alloc | apply Kd.R_drewN | apply Kd.R_drew)); exact HO_9.out⟩, ⟨by (with_reducible repeat (first | refine blk_drewN ?_ _ | refine blk_drew ?_ | refine blk_alloc ?_ _)); exact BK106.out⟩, ⟨by exact bl_g HB.out⟩⟩
     case round =>
      clear H'
      try clear c1
      try clear p1
      try clear q1
      try clear hx1
      try clear c2
      try clear p2
      try clear c6
      try clear c6b0
      try clear c6b1
      try clear c9
      try clear c9b0
      try clear c10
      try clear p10
      try clear q10
      try clear hx10
      try clear c11
      try clear c11b0
      try clear c11b1
      try clear c12
      try clear c12b0
      try clear c12b1
      try clear c15
      try clear c15b0
      try clear c16
      try clear c16b0
      try clear c17
      try clear c17b0
      try clear c20
      try clear c22
      try clear c23
      try clear c24
      try clear c25
      try clear hcz24_0
      try clear hcz24_1
      try clear hcz27_0
      try clear hcz27_1
      try clear hfz24_0
      try clear hfz24_1
      try clear hfz27_0
      try clear hfz27_1
      try clear hx105_0
      try clear hx105_1
      try clear p105
      try clear p2
      try clear q105
      obtain ⟨x8_3, x9_3, x65_3, rfl, HA, HK3, HO_8, HO_9, BK106, HB⟩ := hrel
      cases gk with
      | zero => exact absurd HA.out (by simp [ehframe_Write.l1])
      | succ k3 =>
       have H := HA.out
       clear HA
       simp only [ehframe_Write.l1] at H
       by_cases c35 : x65_3 < (l1.length : Int)
       rotate_left
       ·
        rw [if_neg c35] at H
        have c35b0 : decide (x65_3 < (l1.length : Int)) = false := decide_eq_false c35
        clear c35
        have H' := am H
        clear H
        go_wp2
        go_roundg k3
        case measure => have := HJ6.out; have := HK2.out; have := HK3.out; omega
        case rel => exact ⟨(x8_3), (x9_3), (wrap64 (x42_2 + 1)), (by first | rfl | (simp; done) | (simp [*]; done)), H', ⟨by have := HJ6.out; have := HK2.out; have := HK3.out; omega⟩, ⟨by (with_reducible repeat (first | apply Kd.R_alloc | apply Kd.R_drewN | apply Kd.R_drew)); exact HO_8.out⟩, ⟨by (with_reducible repeat (first | apply Kd.R_alloc | apply Kd.R_drewN | apply Kd.R_drew)); exact HO_9.out⟩, ⟨by exact bl_g HB.out⟩⟩
       rw [if_pos c35] at H
       have c35b0 : decide (x65_3 < (l1.length : Int)) = true := decide_eq_true c35
       clear c35
       by_cases c36 : 0 ≤ x65_3
       rotate_left
       ·
        rw [if_neg c36] at H
        exact absurd H (by simp)
       rw [if_pos c36] at H
       have c36b0 : decide (0 ≤ x65_3) = true := decide_eq_true c36
       clear c36
       by_cases c37 : x65_3 < (l1.length : Int)
       rotate_left
       ·
        rw [if_neg c37] at H
        exact absurd H (by simp)
       rw [if_pos c37] at H
       have c37b0 : decide (x65_3 < (l1.length : Int)) = true := decide_eq_true c37
       clear c37
       by_cases c38 : ((rd_T46 l1 x65_3).f0) = x42_2
       rotate_left
       ·
        rw [if_neg c38] at H
        have c38b0 : (((rd_T46 l1 x65_3).f0) == x42_2) = false := beq_eq_false_iff_ne.mpr c38
        have c38b1 : (((rd_T46 l1 x65_3).f0) != x42_2) = true := bne_iff_ne.mpr c38
        have H' := am H
        clear H
        have p123 : 0 ≤ (x65_3 : Int) := od
        have q123 : x65_3 < (l1.length : Int) := od
        obtain ⟨ad123, A123_3, c123_3, e123, hx123_0, hx123_1, hx123_2, hx123_3, hl123_3, hi123_3⟩ := at_T46 HR1.out x65_3 p123 q123
        cases e123
        replace hx123_0 := oc HB.out hx123_0
        replace hx123_1 := oc HB.out hx123_1
        replace hx123_2 := oc HB.out hx123_2
        replace hx123_3 := oc HB.out hx123_3
        have HR123_3 := am hi123_3
        have HC123_3 := am hl123_3
        clear hi123_3 hl123_3
        replace p123 := eq_true p123
        replace q123 := eq_true q123
        go_wp2_with (first | ((with_reducible refine gate_dst (N := 18) rfl ?_); refine box_event ?hg (N := 18) ?hd (cs := #[.int .i64 0, .int .i64 0, .int .i64 0, .slice none 0 0]) (t := 46) ?hr ?_; (case hd => rfl); (case hg => rfl); (case hr => go_simp; try rfl); intro gb124 hg w108 hbox hb; refine mv8 (am (Kd.R_below (Kd.R_o HO_8.out) hb)) (am (Kd.R_below (Kd.R_o HO_9.out) hb)) (am (blk_below (blk_o BK106.out) hb)) (am (below_step (by exact bl_g HB.out) hb)) (am (hbox)) (lei (by rw [hg]; exact (below_size (by exact bl_g HB.out)) : w.heap.size ≤ gb124)) (am ((by rw [hg]; exact Nat.ne_of_lt (blk_lt (g := gb106) (o := .cells #[.int .i64 ((rd_T69 l0 x42_2).f0), .slice A105_1 ((rd_T69 l0 x42_2).f1).length c105_1] 69 (0, 0)) (blk_o BK106.out)) : gb106 ≠ gb124))) (am ((by rw [hg]; exact Nat.ne_of_gt (blk_lt (g := gb106) (o := .cells #[.int .i64 ((rd_T69 l0 x42_2).f0), .slice A105_1 ((rd_T69 l0 x42_2).f1).length c105_1] 69 (0, 0)) (blk_o BK106.out)) : gb124 ≠ gb106))) ?_; clear HO_8 HO_9 BK106 HB; intro HO_8 HO_9 BK106 HB BK124 GW124 NB106_124 NB124_106; have GE124 := GW124; clear hb hbox hg; have hnb109 := NB124_106.out; have hnc109 := NB106_124.out; obtain ⟨hcz110_0, hcz110_1, hcz110_2, hcz110_3, hfz110_0, hfz110_1, hfz110_2, hfz110_3⟩ := cells4 BK124.out))
        go_roundg k3
        case measure => have := HJ6.out; have := HK2.out; have := HK3.out; omega
        case rel => exact ⟨(x8_3), (x9_3), (wrap64 (x65_3 + 1)), (by first | rfl | (simp; done) | (simp [*]; done)), H', ⟨by have := HJ6.out; have := HK2.out; have := HK3.out; omega⟩, ⟨by (with_reducible repeat (first | apply Kd.R_alloc | apply Kd.R_drewN | apply Kd.R_drew)); exact Kd.R_mono (Kd.R_far (p := ⟨gb124, 3, none⟩) (Kd.R_far (p := ⟨gb124, 2, none⟩) (Kd.R_far (p := ⟨gb124, 1, none⟩) (Kd.R_far (p := ⟨gb124, 0, none⟩) (Kd.R_types HO_8.out BK124.out (by decide)) (fun _ hk => hk.2) (.int .i64 ((rd_T46 l1 x65_3).f0))) (fun _ hk => hk.2) (.int .i64 ((rd_T46 l1 x65_3).f1))) (fun _ hk => hk.2) (.int .i64 ((rd_T46 l1 x65_3).f2))) (fun _ hk => hk.2) (.slice A123_3 ((rd_T46 l1 x65_3).f3).length c123_3)) (fun _ hk => trivial)⟩, ⟨by (with_reducible repeat (first | apply Kd.R_alloc | apply Kd.R_drewN | apply Kd.R_drew)); exact Kd.R_mono (Kd.R_far (p := ⟨gb124, 3, none⟩) (Kd.R_far (p := ⟨gb124, 2, none⟩) (Kd.R_far (p := ⟨gb124, 1, none⟩) (Kd.R_far (p := ⟨gb124, 0, none⟩) (Kd.R_types HO_9.out BK124.out (by decide)) (fun _ hk => hk.2) (.int .i64 ((rd_T46 l1 x65_3).f0))) (fun _ hk => hk.2) (.int .i64 ((rd_T46 l1 x65_3).f1))) (fun _ hk => hk.2) (.int .i64 ((rd_T46 l1 x65_3).f2))) (fun _ hk => hk.2) (.slice A123_3 ((rd_T46 l1 x65_3).f3).length c123_3)) (fun _ hk => trivial)⟩, ⟨by (with_reducible repeat (first | refine blk_drewN ?_ _ | refine blk_drew ?_ | refine blk_alloc ?_ _)); refine blk_far ?_ NB106_124.out _; (with_reducible repeat (first | refine blk_drewN ?_ _ | refine blk_drew ?_ | refine blk_alloc ?_ _)); refine blk_far ?_ NB106_124.out _; (with_reducible repeat (first | refine blk_drewN ?_ _ | refine blk_drew ?_ | refine blk_alloc ?_ _)); refine blk_far ?_ NB106_124.out _; (with_reducible repeat (first | refine blk_drewN ?_ _ | refine blk_drew ?_ | refine blk_alloc ?_ _)); refine blk_far ?_ NB106_124.out _; (with_reducible repeat (first | refine blk_drewN ?_ _ | refine blk_drew ?_ | refine blk_alloc ?_ _)); exact BK106.out⟩, ⟨by exact bl_g HB.out⟩⟩
       rw [if_pos c38] at H
       have c38b0 : (((rd_T46 l1 x65_3).f0) == x42_2) = true := beq_iff_eq.mpr c38
       have c38b1 : (((rd_T46 l1 x65_3).f0) != x42_2) = false := bne_eq_false_iff_eq.mpr c38
       clear c38
       by_cases c39 : x65_3 < (x9_3.length : Int)
       rotate_left
       ·
        rw [if_neg c39] at H
        exact absurd H (by simp)
       rw [if_pos c39] at H
       have c39b0 : decide (x65_3 < (x9_3.length : Int)) = true := decide_eq_true c39
       clear c39
       obtain ⟨y125, hy125⟩ : ∃ y_ : List Int, y_ = (x9_3.set (x65_3 : Int).toNat (x8_3.length : Int)) := ⟨_, rfl⟩
       replace H : ((ehframe_low.f k3 (wrap64 ((wrap64 ((x8_3.length : Int) + 4)) - (x8_2.length : Int)))).bind fun t126 => ((ehframe_Put.f k3 ((rd_T69 l0 x42_2).f0) ((rd_T46 l1 x65_3).f1) (wrap64 ((wrap64 (a2 + (x8_3.length : Int))) + 8)) 0).bind fun bt129 => (if bt129.2 = 0 then ((ehframe_Put.f k3 (Go.bits .and .i64 ((rd_T69 l0 x42_2).f0) 15) ((rd_T46 l1 x65_3).f2) 0 0).bind fun bt133 => (if bt133.2 = 0 then ((cfa_Write.f k3 ((rd_T46 l1 x65_3).f3)).bind fun bt137 => (if t126.length + bt129.1.length < 140737488355328 then ((some (t126 ++ bt129.1 : List Int)).bind fun y141 => (if y141.length + bt133.1.length < 140737488355328 then ((some (y141 ++ bt133.1 : List Int)).bind fun y144 => (if y144.length < 140737488355328 then ((some (y144 ++ [0] : List Int)).bind fun y147 => (if y147.length + bt137.1.length < 140737488355328 then ((ehframe_record.f k3 (y147 ++ bt137.1)).bind fun t153 => (if x8_3.length + t153.length < 140737488355328 then (ehframe_Write.l1 k3 l1 a2 a3 (x8_3 ++ t153) y125 x42_2 (x8_2.length : Int) l0 (l0.length : Int) x42_2 l1 (l1.length : Int) (wrap64 (x65_3 + 1)) ((rd_T69 l0 x42_2).f0) ((rd_T69 l0 x42_2).f1)) else (none))) else (none))) else (none))) else (none))) else (none))) else (some (([] : List Int), ([] : List Int), 11)))) else (some (([] : List Int), ([] : List Int), 11))))) = some (r1, r2, r3) := by first | (rw [hy125]; with_reducible exact H) | (have H2_ := (Option.bind_some _ _).symm.trans H; rw [hy125]; with_reducible exact H2_)
       have Ny125 := am hy125
       clear hy125
       replace H := Option.bind_eq_some_iff.mp H
       obtain ⟨t126, A410, H⟩ := H
       replace H : ((ehframe_Put.f k3 ((rd_T69 l0 x42_2).f0) ((rd_T46 l1 x65_3).f1) (wrap64 ((wrap64 (a2 + (x8_3.length : Int))) + 8)) 0).bind fun bt129 => (if bt129.2 = 0 then ((ehframe_Put.f k3 (Go.bits .and .i64 ((rd_T69 l0 x42_2).f0) 15) ((rd_T46 l1 x65_3).f2) 0 0).bind fun bt133 => (if bt133.2 = 0 then ((cfa_Write.f k3 ((rd_T46 l1 x65_3).f3)).bind fun bt137 => (if t126.length + bt129.1.length < 140737488355328 then ((some (t126 ++ bt129.1 : List Int)).bind fun y141 => (if y141.length + bt133.1.length < 140737488355328 then ((some (y141 ++ bt133.1 : List Int)).bind fun y144 => (if y144.length < 140737488355328 then ((some (y144 ++ [0] : List Int)).bind fun y147 => (if y147.length + bt137.1.length < 140737488355328 then ((ehframe_record.f k3 (y147 ++ bt137.1)).bind fun t153 => (if x8_3.length + t153.length < 140737488355328 then (ehframe_Write.l1 k3 l1 a2 a3 (x8_3 ++ t153) y125 x42_2 (x8_2.length : Int) l0 (l0.length : Int) x42_2 l1 (l1.length : Int) (wrap64 (x65_3 + 1)) ((rd_T69 l0 x42_2).f0) ((rd_T69 l0 x42_2).f1)) else (none))) else (none))) else (none))) else (none))) else (none))) else (some (([] : List Int), ([] : List Int), 11)))) else (some (([] : List Int), ([] : List Int), 11)))) = some (r1, r2, r3) := H
       have A41 := am A410
       clear A410
       replace H := Option.bind_eq_some_iff.mp H
       obtain ⟨⟨t129, t130⟩, A420, H⟩ := H
       replace H : (if t130 = 0 then ((ehframe_Put.f k3 (Go.bits .and .i64 ((rd_T69 l0 x42_2).f0) 15) ((rd_T46 l1 x65_3).f2) 0 0).bind fun bt133 => (if bt133.2 = 0 then ((cfa_Write.f k3 ((rd_T46 l1 x65_3).f3)).bind fun bt137 => (if t126.length + t129.length < 140737488355328 then ((some (t126 ++ t129 : List Int)).bind fun y141 => (if y141.length + bt133.1.length < 140737488355328 then ((some (y141 ++ bt133.1 : List Int)).bind fun y144 => (if y144.length < 140737488355328 then ((some (y144 ++ [0] : List Int)).bind fun y147 => (if y147.length + bt137.1.length < 140737488355328 then ((ehframe_record.f k3 (y147 ++ bt137.1)).bind fun t153 => (if x8_3.length + t153.length < 140737488355328 then (ehframe_Write.l1 k3 l1 a2 a3 (x8_3 ++ t153) y125 x42_2 (x8_2.length : Int) l0 (l0.length : Int) x42_2 l1 (l1.length : Int) (wrap64 (x65_3 + 1)) ((rd_T69 l0 x42_2).f0) ((rd_T69 l0 x42_2).f1)) else (none))) else (none))) else (none))) else (none))) else (none))) else (some (([] : List Int), ([] : List Int), 11)))) else (some (([] : List Int), ([] : List Int), 11))) = some (r1, r2, r3) := H
       have A42 := am A420
       clear A420
       by_cases c43 : t130 = 0
       rotate_left
       ·
        rw [if_neg c43] at H
        have c43b0 : (t130 == 0) = false := beq_eq_false_iff_ne.mpr c43
        have c43b1 : (t130 != 0) = true := bne_iff_ne.mpr c43
        simp only [Option.some.injEq, Prod.mk.injEq] at H
        obtain ⟨rfl, rfl, rfl⟩ := H
        have p123 : 0 ≤ (x65_3 : Int) := od
        have q123 : x65_3 < (l1.length : Int) := od
        obtain ⟨ad123, A123_3, c123_3, e123, hx123_0, hx123_1, hx123_2, hx123_3, hl123_3, hi123_3⟩ := at_T46 HR1.out x65_3 p123 q123
        cases e123
        replace hx123_0 := oc HB.out hx123_0
        replace hx123_1 := oc HB.out hx123_1
        replace hx123_2 := oc HB.out hx123_2
        replace hx123_3 := oc HB.out hx123_3
        have HR123_3 := am hi123_3
        have HC123_3 := am hl123_3
        clear hi123_3 hl123_3
        replace p123 := eq_true p123
        replace q123 := eq_true q123
        go_wp2_with (first | ((with_reducible refine gate_dst (N := 18) rfl ?_); refine box_event ?hg (N := 18) ?hd (cs := #[.int .i64 0, .int .i64 0, .int .i64 0, .slice none 0 0]) (t := 46) ?hr ?_; (case hd => rfl); (case hg => rfl); (case hr => go_simp; try rfl); intro gb124 hg w96 hbox hb; refine mv8 (am (Kd.R_below (Kd.R_o HO_8.out) hb)) (am (Kd.R_below (Kd.R_o HO_9.out) hb)) (am (blk_below (blk_o BK106.out) hb)) (am (below_step (by exact bl_g HB.out) hb)) (am (hbox)) (lei (by rw [hg]; exact (below_size (by exact bl_g HB.out)) : w.heap.size ≤ gb124)) (am ((by rw [hg]; exact Nat.ne_of_lt (blk_lt (g := gb106) (o := .cells #[.int .i64 ((rd_T69 l0 x42_2).f0), .slice A105_1 ((rd_T69 l0 x42_2).f1).length c105_1] 69 (0, 0)) (blk_o BK106.out)) : gb106 ≠ gb124))) (am ((by rw [hg]; exact Nat.ne_of_gt (blk_lt (g := gb106) (o := .cells #[.int .i64 ((rd_T69 l0 x42_2).f0), .slice A105_1 ((rd_T69 l0 x42_2).f1).length c105_1] 69 (0, 0)) (blk_o BK106.out)) : gb124 ≠ gb106))) ?_; clear HO_8 HO_9 BK106 HB; intro HO_8 HO_9 BK106 HB BK124 GW124 NB106_124 NB124_106; have GE124 := GW124; clear hb hbox hg; have hnb97 := NB124_106.out; have hnc97 := NB106_124.out; obtain ⟨hcz98_0, hcz98_1, hcz98_2, hcz98_3, hfz98_0, hfz98_1, hfz98_2, hfz98_3⟩ := cells4 BK124.out) | ((with_reducible refine gate_store (t := 46) (p := 18) rfl ?_); refine store_event (t := 46) (p := 18) (v := ?vo_w99) (w1 := ((((w96.setCell ⟨gb124, 0, none⟩ (.int .i64 ((rd_T46 l1 x65_3).f0))).setCell ⟨gb124, 1, none⟩ (.int .i64 ((rd_T46 l1 x65_3).f1))).setCell ⟨gb124, 2, none⟩ (.int .i64 ((rd_T46 l1 x65_3).f2))).setCell ⟨gb124, 3, none⟩ (.slice A123_3 ((rd_T46 l1 x65_3).f3).length c123_3))) ?hg ?ho ?hn ?hr ?_; (case ho => rfl); (case hg => rfl); (case hn => rfl); (case hr => go_simp; try rfl); intro w99 hw; refine mv5 (⟨(by rw [hw]; exact (Kd.R_o (Kd.R_mono (Kd.R_far (p := ⟨gb124, 3, none⟩) (Kd.R_far (p := ⟨gb124, 2, none⟩) (Kd.R_far (p := ⟨gb124, 1, none⟩) (Kd.R_far (p := ⟨gb124, 0, none⟩) (Kd.R_types HO_8.out BK124.out (by decide)) (fun _ hk => hk.2) (.int .i64 ((rd_T46 l1 x65_3).f0))) (fun _ hk => hk.2) (.int .i64 ((rd_T46 l1 x65_3).f1))) (fun _ hk => hk.2) (.int .i64 ((rd_T46 l1 x65_3).f2))) (fun _ hk => hk.2) (.slice A123_3 ((rd_T46 l1 x65_3).f3).length c123_3)) (fun _ hk => trivial))))⟩ : Aside0 (Kd.R (Kd.int .u8) 5 w99 w.heap.size (fun _ => True) u8 x8_3)) (⟨(by rw [hw]; exact (Kd.R_o (Kd.R_mono (Kd.R_far (p := ⟨gb124, 3, none⟩) (Kd.R_far (p := ⟨gb124, 2, none⟩) (Kd.R_far (p := ⟨gb124, 1, none⟩) (Kd.R_far (p := ⟨gb124, 0, none⟩) (Kd.R_types HO_9.out BK124.out (by decide)) (fun _ hk => hk.2) (.int .i64 ((rd_T46 l1 x65_3).f0))) (fun _ hk => hk.2) (.int .i64 ((rd_T46 l1 x65_3).f1))) (fun _ hk => hk.2) (.int .i64 ((rd_T46 l1 x65_3).f2))) (fun _ hk => hk.2) (.slice A123_3 ((rd_T46 l1 x65_3).f3).length c123_3)) (fun _ hk => trivial))))⟩ : Aside0 (Kd.R (Kd.int .i64) 3 w99 w.heap.size (fun _ => True) u9 x9_3)) (⟨(by rw [hw]; exact (by (with_reducible repeat (first | refine blk_drewN ?_ _ | refine blk_drew ?_ | refine blk_alloc ?_ _)); refine blk_far ?_ NB106_124.out _; (with_reducible repeat (first | refine blk_drewN ?_ _ | refine blk_drew ?_ | refine blk_alloc ?_ _)); refine blk_far ?_ NB106_124.out _; (with_reducible repeat (first | refine blk_drewN ?_ _ | refine blk_drew ?_ | refine blk_alloc ?_ _)); refine blk_far ?_ NB106_124.out _; (with_reducible repeat (first | refine blk_drewN ?_ _ | refine blk_drew ?_ | refine blk_alloc ?_ _)); refine blk_far ?_ NB106_124.out _; (with_reducible repeat (first | refine blk_drewN ?_ _ | refine blk_drew ?_ | refine blk_alloc ?_ _)); exact BK106.out))⟩ : Aside0 (w99.heap[gb106]? = some (.cells #[.int .i64 ((rd_T69 l0 x42_2).f0), .slice A105_1 ((rd_T69 l0 x42_2).f1).length c105_1] 69 (0, 0)))) (⟨(by rw [hw]; exact (bps BK124.out rfl))⟩ : Aside0 (w99.heap[gb124]? = some (.cells #[.int .i64 ((rd_T46 l1 x65_3).f0), .int .i64 ((rd_T46 l1 x65_3).f1), .int .i64 ((rd_T46 l1 x65_3).f2), .slice A123_3 ((rd_T46 l1 x65_3).f3).length c123_3] 46 (0, 0)))) (⟨(by rw [hw]; exact (by exact bl_g HB.out))⟩ : Aside0 (Below w.heap.size w w99)) ?_; clear hw HO_8 HO_9 BK106 BK124 HB; intro HO_8 HO_9 BK106 BK124 HB; obtain ⟨hcz100_0, hcz100_1, hcz100_2, hcz100_3, hfz100_0, hfz100_1, hfz100_2, hfz100_3⟩ := cells4 BK124.out; obtain ⟨Ao101, co101, eo101⟩ := Kd.R_slice HO_8.out; subst eo101; have p40 : 0 ≤ (x65_3 : Int) := od; have q40 : (x65_3 : Int) < ((x9_3.length : Int) : Int) := od; obtain ⟨go40, co40, eo40, gb40, gl40, cl40, HG40⟩ := Kd.R_form HO_9.out (by omega); (first | cases eo40 | (injection eo40 with ea_ en_ ec_; (first | subst ea_ | (injection ea_ with ea_; subst ea_)); subst ec_; clear en_)); have GB40 := am gb40; have GG40 := am HG40; clear gb40 gl40 HG40; obtain ⟨hx40_0, hf40_0⟩ := Kd.R_celln 0 HO_9.out (x65_3 : Int) p40 q40; replace p40 := eq_true p40; replace q40 := eq_true q40; obtain ⟨hy102_, hz102_⟩ := Kd.R_celln 0 HO_9.out (x65_3 : Int) (od) (od); have HP102 := Kd.R_putg HO_9.out (x65_3 : Int) (x8_3.length : Int)) | ((with_reducible refine gate_store (t := 3) (p := 78) rfl ?_); refine store_event (t := 3) (p := 78) (v := ?vo_w103) (w1 := (w99.setCell ⟨go40, (x65_3 : Int).toNat, none⟩ (.int .i64 (x8_3.length : Int)))) ?hg ?ho ?hn ?hr ?_; (case ho => rfl); (case hg => rfl); (case hn => rfl); (case hr => go_simp; try rfl); intro w103 hw; have hg : w99.grownBy w103 (some go40) := (by rw [hw]; exact HP102.2); have hp_ : Kd.R (Kd.int .i64) 3 w103 w.heap.size (fun _ => True) (.slice (some ⟨go40, 0, none⟩) x9_3.length co40) y125 := (by rw [hw, Ny125.out]; exact HP102.1); clear HP102; refine mv5 (am (Kd.R_over' (v := (.slice (some ⟨go40, 0, none⟩) x9_3.length co40)) (Kd.R_o HO_8.out) (Kd.R_typed HO_9.out) (by decide) hg)) (am (hp_)) (am (blk_grown (g := gb106) (o := .cells #[.int .i64 ((rd_T69 l0 x42_2).f0), .slice A105_1 ((rd_T69 l0 x42_2).f1).length c105_1] 69 (0, 0)) (blk_o BK106.out) hg (Kd.R_ne HO_9.out BK106.out (by decide)))) (am (blk_grown (g := gb124) (o := .cells #[.int .i64 ((rd_T46 l1 x65_3).f0), .int .i64 ((rd_T46 l1 x65_3).f1), .int .i64 ((rd_T46 l1 x65_3).f2), .slice A123_3 ((rd_T46 l1 x65_3).f3).length c123_3] 46 (0, 0)) (blk_o BK124.out) hg (Kd.R_ne HO_9.out BK124.out (by decide)))) (am ((by rw [hw]; exact below_set (HB.out) GB40.out : Below w.heap.size w w103))) ?_; clear HO_8 HO_9 BK106 BK124 HB; intro HO_8 HO_9 BK106 BK124 HB; clear hg hw hp_) | ((with_reducible refine gate_callee (f := 26) rfl ?_); refine goesL_ (some 84) rfl rfl Try.func26 (by kernel_rfl) rfl #[.int .i64 (wrap64 ((wrap64 ((x8_3.length : Int) + 4)) - (x8_2.length : Int)))] rfl (by simp only [ml]; try rfl) ?_; (with_reducible refine (ehframe_low.calls k3 (wrap64 ((wrap64 ((x8_3.length : Int) + 4)) - (x8_2.length : Int))) t126 _ A41.out).mono ?_); rintro e w104 ⟨v127, rfl, ho0, hb⟩; refine ⟨_, rfl, ?_⟩; refine mv6 (am (Kd.R_elder' (Kd.R_o HO_8.out) (Kd.R_base ho0) hb)) (am (Kd.R_below (Kd.R_o HO_9.out) hb)) (am (Kd.R_lower (Kd.R_new' ho0 (Kd.R_lt (Kd.R_o HO_8.out))) (below_size (by exact bl_g HB.out)))) (am (blk_below (blk_o BK106.out) hb)) (am (blk_below (blk_o BK124.out) hb)) (am (below_step (by exact bl_g HB.out) hb)) ?_; clear HO_8 HO_9 BK106 BK124 HB; intro HO_8 HO_9 HO128 BK106 BK124 HB; obtain ⟨hcz105_0, hcz105_1, hfz105_0, hfz105_1⟩ := cells2 BK106.out; obtain ⟨hcz106_0, hcz106_1, hcz106_2, hcz106_3, hfz106_0, hfz106_1, hfz106_2, hfz106_3⟩ := cells4 BK124.out) | ((with_reducible refine gate_callee (f := 16) rfl ?_); refine goesL_ (some 95) rfl rfl Try.func16 (by kernel_rfl) rfl #[.int .i64 ((rd_T69 l0 x42_2).f0), .int .i64 ((rd_T46 l1 x65_3).f1), .int .i64 (wrap64 ((wrap64 (a2 + (x8_3.length : Int))) + 8)), .int .i64 0] rfl (by simp only [ml]; try rfl) ?_; (with_reducible refine (ehframe_Put.calls k3 ((rd_T69 l0 x42_2).f0) ((rd_T46 l1 x65_3).f1) (wrap64 ((wrap64 (a2 + (x8_3.length : Int))) + 8)) 0 t129 t130 _ A42.out).mono ?_); rintro e w107 ⟨v131, rfl, ho0, hb⟩; refine ⟨_, rfl, ?_⟩; refine mv7 (am (Kd.R_elder' (Kd.R_o HO_8.out) (Kd.R_base ho0) hb)) (am (Kd.R_below (Kd.R_o HO_9.out) hb)) (am (Kd.R_elder' (Kd.R_o HO128.out) (Kd.R_base ho0) hb)) (am (Kd.R_lower (Kd.R_new' (Kd.R_new' ho0 (Kd.R_lt (Kd.R_o HO_8.out))) (Kd.R_lt (Kd.R_o HO128.out))) (below_size (by exact bl_g HB.out)))) (am (blk_below (blk_o BK106.out) hb)) (am (blk_below (blk_o BK124.out) hb)) (am (below_step (by exact bl_g HB.out) hb)) ?_; clear HO_8 HO_9 HO128 BK106 BK124 HB; intro HO_8 HO_9 HO128 HO132 BK106 BK124 HB))
        go_ret3
        exact ⟨_, _, rfl, by first | exact Kd.R_nil _ _ _ _ _ | exact Kd.N_nil _ _ _ _ _, by first | exact Kd.R_nil _ _ _ _ _ | exact Kd.N_nil _ _ _ _ _, by exact bl_g HB.out⟩
       rw [if_pos c43] at H
       have c43b0 : (t130 == 0) = true := beq_iff_eq.mpr c43
       have c43b1 : (t130 != 0) = false := bne_eq_false_iff_eq.mpr c43
       clear c43
       replace H := Option.bind_eq_some_iff.mp H
       obtain ⟨⟨t133, t134⟩, A440, H⟩ := H
       replace H : (if t134 = 0 then ((cfa_Write.f k3 ((rd_T46 l1 x65_3).f3)).bind fun bt137 => (if t126.length + t129.length < 140737488355328 then ((some (t126 ++ t129 : List Int)).bind fun y141 => (if y141.length + t133.length < 140737488355328 then ((some (y141 ++ t133 : List Int)).bind fun y144 => (if y144.length < 140737488355328 then ((some (y144 ++ [0] : List Int)).bind fun y147 => (if y147.length + bt137.1.length < 140737488355328 then ((ehframe_record.f k3 (y147 ++ bt137.1)).bind fun t153 => (if x8_3.length + t153.length < 140737488355328 then (ehframe_Write.l1 k3 l1 a2 a3 (x8_3 ++ t153) y125 x42_2 (x8_2.length : Int) l0 (l0.length : Int) x42_2 l1 (l1.length : Int) (wrap64 (x65_3 + 1)) ((rd_T69 l0 x42_2).f0) ((rd_T69 l0 x42_2).f1)) else (none))) else (none))) else (none))) else (none))) else (none))) else (some (([] : List Int), ([] : List Int), 11))) = some (r1, r2, r3) := H
       have A44 := am A440
       clear A440
       by_cases c45 : t134 = 0
       rotate_left
       ·
        rw [if_neg c45] at H
        have c45b0 : (t134 == 0) = false := beq_eq_false_iff_ne.mpr c45
        have c45b1 : (t134 != 0) = true := bne_iff_ne.mpr c45
        simp only [Option.some.injEq, Prod.mk.injEq] at H
        obtain ⟨rfl, rfl, rfl⟩ := H
        have p123 : 0 ≤ (x65_3 : Int) := od
        have q123 : x65_3 < (l1.length : Int) := od
        obtain ⟨ad123, A123_3, c123_3, e123, hx123_0, hx123_1, hx123_2, hx123_3, hl123_3, hi123_3⟩ := at_T46 HR1.out x65_3 p123 q123
        cases e123
        replace hx123_0 := oc HB.out hx123_0
        replace hx123_1 := oc HB.out hx123_1
        replace hx123_2 := oc HB.out hx123_2
        replace hx123_3 := oc HB.out hx123_3
        have HR123_3 := am hi123_3
        have HC123_3 := am hl123_3
        clear hi123_3 hl123_3
        replace p123 := eq_true p123
        replace q123 := eq_true q123
        go_wp2_with (first | ((with_reducible refine gate_dst (N := 18) rfl ?_); refine box_event ?hg (N := 18) ?hd (cs := #[.int .i64 0, .int .i64 0, .int .i64 0, .slice none 0 0]) (t := 46) ?hr ?_; (case hd => rfl); (case hg => rfl); (case hr => go_simp; try rfl); intro gb124 hg w81 hbox hb; refine mv8 (am (Kd.R_below (Kd.R_o HO_8.out) hb)) (am (Kd.R_below (Kd.R_o HO_9.out) hb)) (am (blk_below (blk_o BK106.out) hb)) (am (below_step (by exact bl_g HB.out) hb)) (am (hbox)) (lei (by rw [hg]; exact (below_size (by exact bl_g HB.out)) : w.heap.size ≤ gb124)) (am ((by rw [hg]; exact Nat.ne_of_lt (blk_lt (g := gb106) (o := .cells #[.int .i64 ((rd_T69 l0 x42_2).f0), .slice A105_1 ((rd_T69 l0 x42_2).f1).length c105_1] 69 (0, 0)) (blk_o BK106.out)) : gb106 ≠ gb124))) (am ((by rw [hg]; exact Nat.ne_of_gt (blk_lt (g := gb106) (o := .cells #[.int .i64 ((rd_T69 l0 x42_2).f0), .slice A105_1 ((rd_T69 l0 x42_2).f1).length c105_1] 69 (0, 0)) (blk_o BK106.out)) : gb124 ≠ gb106))) ?_; clear HO_8 HO_9 BK106 HB; intro HO_8 HO_9 BK106 HB BK124 GW124 NB106_124 NB124_106; have GE124 := GW124; clear hb hbox hg; have hnb82 := NB124_106.out; have hnc82 := NB106_124.out; obtain ⟨hcz83_0, hcz83_1, hcz83_2, hcz83_3, hfz83_0, hfz83_1, hfz83_2, hfz83_3⟩ := cells4 BK124.out) | ((with_reducible refine gate_store (t := 46) (p := 18) rfl ?_); refine store_event (t := 46) (p := 18) (v := ?vo_w84) (w1 := ((((w81.setCell ⟨gb124, 0, none⟩ (.int .i64 ((rd_T46 l1 x65_3).f0))).setCell ⟨gb124, 1, none⟩ (.int .i64 ((rd_T46 l1 x65_3).f1))).setCell ⟨gb124, 2, none⟩ (.int .i64 ((rd_T46 l1 x65_3).f2))).setCell ⟨gb124, 3, none⟩ (.slice A123_3 ((rd_T46 l1 x65_3).f3).length c123_3))) ?hg ?ho ?hn ?hr ?_; (case ho => rfl); (case hg => rfl); (case hn => rfl); (case hr => go_simp; try rfl); intro w84 hw; refine mv5 (⟨(by rw [hw]; exact (Kd.R_o (Kd.R_mono (Kd.R_far (p := ⟨gb124, 3, none⟩) (Kd.R_far (p := ⟨gb124, 2, none⟩) (Kd.R_far (p := ⟨gb124, 1, none⟩) (Kd.R_far (p := ⟨gb124, 0, none⟩) (Kd.R_types HO_8.out BK124.out (by decide)) (fun _ hk => hk.2) (.int .i64 ((rd_T46 l1 x65_3).f0))) (fun _ hk => hk.2) (.int .i64 ((rd_T46 l1 x65_3).f1))) (fun _ hk => hk.2) (.int .i64 ((rd_T46 l1 x65_3).f2))) (fun _ hk => hk.2) (.slice A123_3 ((rd_T46 l1 x65_3).f3).length c123_3)) (fun _ hk => trivial))))⟩ : Aside0 (Kd.R (Kd.int .u8) 5 w84 w.heap.size (fun _ => True) u8 x8_3)) (⟨(by rw [hw]; exact (Kd.R_o (Kd.R_mono (Kd.R_far (p := ⟨gb124, 3, none⟩) (Kd.R_far (p := ⟨gb124, 2, none⟩) (Kd.R_far (p := ⟨gb124, 1, none⟩) (Kd.R_far (p := ⟨gb124, 0, none⟩) (Kd.R_types HO_9.out BK124.out (by decide)) (fun _ hk => hk.2) (.int .i64 ((rd_T46 l1 x65_3).f0))) (fun _ hk => hk.2) (.int .i64 ((rd_T46 l1 x65_3).f1))) (fun _ hk => hk.2) (.int .i64 ((rd_T46 l1 x65_3).f2))) (fun _ hk => hk.2) (.slice A123_3 ((rd_T46 l1 x65_3).f3).length c123_3)) (fun _ hk => trivial))))⟩ : Aside0 (Kd.R (Kd.int .i64) 3 w84 w.heap.size (fun _ => True) u9 x9_3)) (⟨(by rw [hw]; exact (by (with_reducible repeat (first | refine blk_drewN ?_ _ | refine blk_drew ?_ | refine blk_alloc ?_ _)); refine blk_far ?_ NB106_124.out _; (with_reducible repeat (first | refine blk_drewN ?_ _ | refine blk_drew ?_ | refine blk_alloc ?_ _)); refine blk_far ?_ NB106_124.out _; (with_reducible repeat (first | refine blk_drewN ?_ _ | refine blk_drew ?_ | refine blk_alloc ?_ _)); refine blk_far ?_ NB106_124.out _; (with_reducible repeat (first | refine blk_drewN ?_ _ | refine blk_drew ?_ | refine blk_alloc ?_ _)); refine blk_far ?_ NB106_124.out _; (with_reducible repeat (first | refine blk_drewN ?_ _ | refine blk_drew ?_ | refine blk_alloc ?_ _)); exact BK106.out))⟩ : Aside0 (w84.heap[gb106]? = some (.cells #[.int .i64 ((rd_T69 l0 x42_2).f0), .slice A105_1 ((rd_T69 l0 x42_2).f1).length c105_1] 69 (0, 0)))) (⟨(by rw [hw]; exact (bps BK124.out rfl))⟩ : Aside0 (w84.heap[gb124]? = some (.cells #[.int .i64 ((rd_T46 l1 x65_3).f0), .int .i64 ((rd_T46 l1 x65_3).f1), .int .i64 ((rd_T46 l1 x65_3).f2), .slice A123_3 ((rd_T46 l1 x65_3).f3).length c123_3] 46 (0, 0)))) (⟨(by rw [hw]; exact (by exact bl_g HB.out))⟩ : Aside0 (Below w.heap.size w w84)) ?_; clear hw HO_8 HO_9 BK106 BK124 HB; intro HO_8 HO_9 BK106 BK124 HB; obtain ⟨hcz85_0, hcz85_1, hcz85_2, hcz85_3, hfz85_0, hfz85_1, hfz85_2, hfz85_3⟩ := cells4 BK124.out; obtain ⟨Ao86, co86, eo86⟩ := Kd.R_slice HO_8.out; subst eo86; have p40 : 0 ≤ (x65_3 : Int) := od; have q40 : (x65_3 : Int) < ((x9_3.length : Int) : Int) := od; obtain ⟨go40, co40, eo40, gb40, gl40, cl40, HG40⟩ := Kd.R_form HO_9.out (by omega); (first | cases eo40 | (injection eo40 with ea_ en_ ec_; (first | subst ea_ | (injection ea_ with ea_; subst ea_)); subst ec_; clear en_)); have GB40 := am gb40; have GG40 := am HG40; clear gb40 gl40 HG40; obtain ⟨hx40_0, hf40_0⟩ := Kd.R_celln 0 HO_9.out (x65_3 : Int) p40 q40; replace p40 := eq_true p40; replace q40 := eq_true q40; obtain ⟨hy87_, hz87_⟩ := Kd.R_celln 0 HO_9.out (x65_3 : Int) (od) (od); have HP87 := Kd.R_putg HO_9.out (x65_3 : Int) (x8_3.length : Int)) | ((with_reducible refine gate_store (t := 3) (p := 78) rfl ?_); refine store_event (t := 3) (p := 78) (v := ?vo_w88) (w1 := (w84.setCell ⟨go40, (x65_3 : Int).toNat, none⟩ (.int .i64 (x8_3.length : Int)))) ?hg ?ho ?hn ?hr ?_; (case ho => rfl); (case hg => rfl); (case hn => rfl); (case hr => go_simp; try rfl); intro w88 hw; have hg : w84.grownBy w88 (some go40) := (by rw [hw]; exact HP87.2); have hp_ : Kd.R (Kd.int .i64) 3 w88 w.heap.size (fun _ => True) (.slice (some ⟨go40, 0, none⟩) x9_3.length co40) y125 := (by rw [hw, Ny125.out]; exact HP87.1); clear HP87; refine mv5 (am (Kd.R_over' (v := (.slice (some ⟨go40, 0, none⟩) x9_3.length co40)) (Kd.R_o HO_8.out) (Kd.R_typed HO_9.out) (by decide) hg)) (am (hp_)) (am (blk_grown (g := gb106) (o := .cells #[.int .i64 ((rd_T69 l0 x42_2).f0), .slice A105_1 ((rd_T69 l0 x42_2).f1).length c105_1] 69 (0, 0)) (blk_o BK106.out) hg (Kd.R_ne HO_9.out BK106.out (by decide)))) (am (blk_grown (g := gb124) (o := .cells #[.int .i64 ((rd_T46 l1 x65_3).f0), .int .i64 ((rd_T46 l1 x65_3).f1), .int .i64 ((rd_T46 l1 x65_3).f2), .slice A123_3 ((rd_T46 l1 x65_3).f3).length c123_3] 46 (0, 0)) (blk_o BK124.out) hg (Kd.R_ne HO_9.out BK124.out (by decide)))) (am ((by rw [hw]; exact below_set (HB.out) GB40.out : Below w.heap.size w w88))) ?_; clear HO_8 HO_9 BK106 BK124 HB; intro HO_8 HO_9 BK106 BK124 HB; clear hg hw hp_) | ((with_reducible refine gate_callee (f := 26) rfl ?_); refine goesL_ (some 84) rfl rfl Try.func26 (by kernel_rfl) rfl #[.int .i64 (wrap64 ((wrap64 ((x8_3.length : Int) + 4)) - (x8_2.length : Int)))] rfl (by simp only [ml]; try rfl) ?_; (with_reducible refine (ehframe_low.calls k3 (wrap64 ((wrap64 ((x8_3.length : Int) + 4)) - (x8_2.length : Int))) t126 _ A41.out).mono ?_); rintro e w89 ⟨v127, rfl, ho0, hb⟩; refine ⟨_, rfl, ?_⟩; refine mv6 (am (Kd.R_elder' (Kd.R_o HO_8.out) (Kd.R_base ho0) hb)) (am (Kd.R_below (Kd.R_o HO_9.out) hb)) (am (Kd.R_lower (Kd.R_new' ho0 (Kd.R_lt (Kd.R_o HO_8.out))) (below_size (by exact bl_g HB.out)))) (am (blk_below (blk_o BK106.out) hb)) (am (blk_below (blk_o BK124.out) hb)) (am (below_step (by exact bl_g HB.out) hb)) ?_; clear HO_8 HO_9 BK106 BK124 HB; intro HO_8 HO_9 HO128 BK106 BK124 HB; obtain ⟨hcz90_0, hcz90_1, hfz90_0, hfz90_1⟩ := cells2 BK106.out; obtain ⟨hcz91_0, hcz91_1, hcz91_2, hcz91_3, hfz91_0, hfz91_1, hfz91_2, hfz91_3⟩ := cells4 BK124.out) | ((with_reducible refine gate_callee (f := 16) rfl ?_); refine goesL_ (some 95) rfl rfl Try.func16 (by kernel_rfl) rfl #[.int .i64 ((rd_T69 l0 x42_2).f0), .int .i64 ((rd_T46 l1 x65_3).f1), .int .i64 (wrap64 ((wrap64 (a2 + (x8_3.length : Int))) + 8)), .int .i64 0] rfl (by simp only [ml]; try rfl) ?_; (with_reducible refine (ehframe_Put.calls k3 ((rd_T69 l0 x42_2).f0) ((rd_T46 l1 x65_3).f1) (wrap64 ((wrap64 (a2 + (x8_3.length : Int))) + 8)) 0 t129 t130 _ A42.out).mono ?_); rintro e w92 ⟨v131, rfl, ho0, hb⟩; refine ⟨_, rfl, ?_⟩; refine mv7 (am (Kd.R_elder' (Kd.R_o HO_8.out) (Kd.R_base ho0) hb)) (am (Kd.R_below (Kd.R_o HO_9.out) hb)) (am (Kd.R_elder' (Kd.R_o HO128.out) (Kd.R_base ho0) hb)) (am (Kd.R_lower (Kd.R_new' (Kd.R_new' ho0 (Kd.R_lt (Kd.R_o HO_8.out))) (Kd.R_lt (Kd.R_o HO128.out))) (below_size (by exact bl_g HB.out)))) (am (blk_below (blk_o BK106.out) hb)) (am (blk_below (blk_o BK124.out) hb)) (am (below_step (by exact bl_g HB.out) hb)) ?_; clear HO_8 HO_9 HO128 BK106 BK124 HB; intro HO_8 HO_9 HO128 HO132 BK106 BK124 HB; obtain ⟨hcz93_0, hcz93_1, hfz93_0, hfz93_1⟩ := cells2 BK106.out; obtain ⟨hcz94_0, hcz94_1, hcz94_2, hcz94_3, hfz94_0, hfz94_1, hfz94_2, hfz94_3⟩ := cells4 BK124.out) | ((with_reducible refine gate_callee (f := 16) rfl ?_); refine goesL_ (some 106) rfl rfl Try.func16 (by kernel_rfl) rfl #[.int .i64 (Go.bits .and .i64 ((rd_T69 l0 x42_2).f0) 15), .int .i64 ((rd_T46 l1 x65_3).f2), .int .i64 0, .int .i64 0] rfl (by simp only [ml]; try rfl) ?_; (with_reducible refine (ehframe_Put.calls k3 (Go.bits .and .i64 ((rd_T69 l0 x42_2).f0) 15) ((rd_T46 l1 x65_3).f2) 0 0 t133 t134 _ A44.out).mono ?_); rintro e w95 ⟨v135, rfl, ho0, hb⟩; refine ⟨_, rfl, ?_⟩; refine mv8 (am (Kd.R_elder' (Kd.R_o HO_8.out) (Kd.R_base ho0) hb)) (am (Kd.R_below (Kd.R_o HO_9.out) hb)) (am (Kd.R_elder' (Kd.R_o HO128.out) (Kd.R_base ho0) hb)) (am (Kd.R_elder' (Kd.R_o HO132.out) (Kd.R_base ho0) hb)) (am (Kd.R_lower (Kd.R_new' (Kd.R_new' (Kd.R_new' ho0 (Kd.R_lt (Kd.R_o HO_8.out))) (Kd.R_lt (Kd.R_o HO128.out))) (Kd.R_lt (Kd.R_o HO132.out))) (below_size (by exact bl_g HB.out)))) (am (blk_below (blk_o BK106.out) hb)) (am (blk_below (blk_o BK124.out) hb)) (am (below_step (by exact bl_g HB.out) hb)) ?_; clear HO_8 HO_9 HO128 HO132 BK106 BK124 HB; intro HO_8 HO_9 HO128 HO132 HO136 BK106 BK124 HB))
        go_ret3
        exact ⟨_, _, rfl, by first | exact Kd.R_nil _ _ _ _ _ | exact Kd.N_nil _ _ _ _ _, by first | exact Kd.R_nil _ _ _ _ _ | exact Kd.N_nil _ _ _ _ _, by exact bl_g HB.out⟩
       rw [if_pos c45] at H
       have c45b0 : (t134 == 0) = true := beq_iff_eq.mpr c45
       have c45b1 : (t134 != 0) = false := bne_eq_false_iff_eq.mpr c45
       clear c45
       replace H := Option.bind_eq_some_iff.mp H
       obtain ⟨⟨t137, t138⟩, A460, H⟩ := H
       replace H : (if t126.length + t129.length < 140737488355328 then ((some (t126 ++ t129 : List Int)).bind fun y141 => (if y141.length + t133.length < 140737488355328 then ((some (y141 ++ t133 : List Int)).bind fun y144 => (if y144.length < 140737488355328 then ((some (y144 ++ [0] : List Int)).bind fun y147 => (if y147.length + t137.length < 140737488355328 then ((ehframe_record.f k3 (y147 ++ t137)).bind fun t153 => (if x8_3.length + t153.length < 140737488355328 then (ehframe_Write.l1 k3 l1 a2 a3 (x8_3 ++ t153) y125 x42_2 (x8_2.length : Int) l0 (l0.length : Int) x42_2 l1 (l1.length : Int) (wrap64 (x65_3 + 1)) ((rd_T69 l0 x42_2).f0) ((rd_T69 l0 x42_2).f1)) else (none))) else (none))) else (none))) else (none))) else (none)) = some (r1, r2, r3) := H
       have A46 := am A460
       clear A460
       by_cases c47 : t126.length + t129.length < 140737488355328
       rotate_left
       ·
        rw [if_neg c47] at H
        exact absurd H (by simp)
       rw [if_pos c47] at H
       have LMc47 := am c47
       clear c47
       obtain ⟨y141, hy141⟩ : ∃ y_ : List Int, y_ = (t126 ++ t129) := ⟨_, rfl⟩
       replace H : (if y141.length + t133.length < 140737488355328 then ((some (y141 ++ t133 : List Int)).bind fun y144 => (if y144.length < 140737488355328 then ((some (y144 ++ [0] : List Int)).bind fun y147 => (if y147.length + t137.length < 140737488355328 then ((ehframe_record.f k3 (y147 ++ t137)).bind fun t153 => (if x8_3.length + t153.length < 140737488355328 then (ehframe_Write.l1 k3 l1 a2 a3 (x8_3 ++ t153) y125 x42_2 (x8_2.length : Int) l0 (l0.length : Int) x42_2 l1 (l1.length : Int) (wrap64 (x65_3 + 1)) ((rd_T69 l0 x42_2).f0) ((rd_T69 l0 x42_2).f1)) else (none))) else (none))) else (none))) else (none)) = some (r1, r2, r3) := by first | (rw [hy141]; with_reducible exact H) | (have H2_ := (Option.bind_some _ _).symm.trans H; rw [hy141]; with_reducible exact H2_)
       have Ny141 := am hy141
       clear hy141
       by_cases c48 : y141.length + t133.length < 140737488355328
       rotate_left
       ·
        rw [if_neg c48] at H
        exact absurd H (by simp)
       rw [if_pos c48] at H
       have LMc48 := am c48
       clear c48
       obtain ⟨y144, hy144⟩ : ∃ y_ : List Int, y_ = (y141 ++ t133) := ⟨_, rfl⟩
       replace H : (if y144.length < 140737488355328 then ((some (y144 ++ [0] : List Int)).bind fun y147 => (if y147.length + t137.length < 140737488355328 then ((ehframe_record.f k3 (y147 ++ t137)).bind fun t153 => (if x8_3.length + t153.length < 140737488355328 then (ehframe_Write.l1 k3 l1 a2 a3 (x8_3 ++ t153) y125 x42_2 (x8_2.length : Int) l0 (l0.length : Int) x42_2 l1 (l1.length : Int) (wrap64 (x65_3 + 1)) ((rd_T69 l0 x42_2).f0) ((rd_T69 l0 x42_2).f1)) else (none))) else (none))) else (none)) = some (r1, r2, r3) := by first | (rw [hy144]; with_reducible exact H) | (have H2_ := (Option.bind_some _ _).symm.trans H; rw [hy144]; with_reducible exact H2_)
       have Ny144 := am hy144
       clear hy144
       by_cases c49 : y144.length < 140737488355328
       rotate_left
       ·
        rw [if_neg c49] at H
        exact absurd H (by simp)
       rw [if_pos c49] at H
       have LMc49 := am c49
       clear c49
       obtain ⟨y147, hy147⟩ : ∃ y_ : List Int, y_ = (y144 ++ [0]) := ⟨_, rfl⟩
       replace H : (if y147.length + t137.length < 140737488355328 then ((ehframe_record.f k3 (y147 ++ t137)).bind fun t153 => (if x8_3.length + t153.length < 140737488355328 then (ehframe_Write.l1 k3 l1 a2 a3 (x8_3 ++ t153) y125 x42_2 (x8_2.length : Int) l0 (l0.length : Int) x42_2 l1 (l1.length : Int) (wrap64 (x65_3 + 1)) ((rd_T69 l0 x42_2).f0) ((rd_T69 l0 x42_2).f1)) else (none))) else (none)) = some (r1, r2, r3) := by first | (rw [hy147]; with_reducible exact H) | (have H2_ := (Option.bind_some _ _).symm.trans H; rw [hy147]; with_reducible exact H2_)
       have Ny147 := am hy147
       clear hy147
       by_cases c50 : y147.length + t137.length < 140737488355328
       rotate_left
       ·
        rw [if_neg c50] at H
        exact absurd H (by simp)
       rw [if_pos c50] at H
       have LMc50 := am c50
       clear c50
       obtain ⟨y150, hy150⟩ : ∃ y_ : List Int, y_ = (y147 ++ t137) := ⟨_, rfl⟩
       replace H : ((ehframe_record.f k3 y150).bind fun t153 => (if x8_3.length + t153.length < 140737488355328 then (ehframe_Write.l1 k3 l1 a2 a3 (x8_3 ++ t153) y125 x42_2 (x8_2.length : Int) l0 (l0.length : Int) x42_2 l1 (l1.length : Int) (wrap64 (x65_3 + 1)) ((rd_T69 l0 x42_2).f0) ((rd_T69 l0 x42_2).f1)) else (none))) = some (r1, r2, r3) := by first | (rw [hy150]; with_reducible exact H) | (have H2_ := (Option.bind_some _ _).symm.trans H; rw [hy150]; with_reducible exact H2_)
       have Ny150 := am hy150
       clear hy150
       replace H := Option.bind_eq_some_iff.mp H
       obtain ⟨t153, A510, H⟩ := H
       replace H : (if x8_3.length + t153.length < 140737488355328 then (ehframe_Write.l1 k3 l1 a2 a3 (x8_3 ++ t153) y125 x42_2 (x8_2.length : Int) l0 (l0.length : Int) x42_2 l1 (l1.length : Int) (wrap64 (x65_3 + 1)) ((rd_T69 l0 x42_2).f0) ((rd_T69 l0 x42_2).f1)) else (none)) = some (r1, r2, r3) := H
       have A51 := am A510
       clear A510
       by_cases c52 : x8_3.length + t153.length < 140737488355328
       rotate_left
       ·
        rw [if_neg c52] at H
        exact absurd H (by simp)
       rw [if_pos c52] at H
       have LMc52 := am c52
       clear c52
       obtain ⟨y156, hy156⟩ : ∃ y_ : List Int, y_ = (x8_3 ++ t153) := ⟨_, rfl⟩
       replace H : (ehframe_Write.l1 k3 l1 a2 a3 y156 y125 x42_2 (x8_2.length : Int) l0 (l0.length : Int) x42_2 l1 (l1.length : Int) (wrap64 (x65_3 + 1)) ((rd_T69 l0 x42_2).f0) ((rd_T69 l0 x42_2).f1)) = some (r1, r2, r3) := by first | (rw [hy156]; with_reducible exact H) | (have H2_ := (Option.bind_some _ _).symm.trans H; rw [hy156]; with_reducible exact H2_)
       have Ny156 := am hy156
       clear hy156
       have H' := am H
       clear H
       have p123 : 0 ≤ (x65_3 : Int) := od
       have q123 : x65_3 < (l1.length : Int) := od
       obtain ⟨ad123, A123_3, c123_3, e123, hx123_0, hx123_1, hx123_2, hx123_3, hl123_3, hi123_3⟩ := at_T46 HR1.out x65_3 p123 q123
       cases e123
       replace hx123_0 := oc HB.out hx123_0
       replace hx123_1 := oc HB.out hx123_1
       replace hx123_2 := oc HB.out hx123_2
       replace hx123_3 := oc HB.out hx123_3
       have HR123_3 := am hi123_3
       have HC123_3 := am hl123_3
       clear hi123_3 hl123_3
       replace p123 := eq_true p123
       replace q123 := eq_true q123
       go_wp2_with (first | ((with_reducible refine gate_dst (N := 18) rfl ?_); refine box_event ?hg (N := 18) ?hd (cs := #[.int .i64 0, .int .i64 0, .int .i64 0, .slice none 0 0]) (t := 46) ?hr ?_; (case hd => rfl); (case hg => rfl); (case hr => go_simp; try rfl); intro gb124 hg w53 hbox hb; refine mv8 (am (Kd.R_below (Kd.R_o HO_8.out) hb)) (am (Kd.R_below (Kd.R_o HO_9.out) hb)) (am (blk_below (blk_o BK106.out) hb)) (am (below_step (by exact bl_g HB.out) hb)) (am (hbox)) (lei (by rw [hg]; exact (below_size (by exact bl_g HB.out)) : w.heap.size ≤ gb124)) (am ((by rw [hg]; exact Nat.ne_of_lt (blk_lt (g := gb106) (o := .cells #[.int .i64 ((rd_T69 l0 x42_2).f0), .slice A105_1 ((rd_T69 l0 x42_2).f1).length c105_1] 69 (0, 0)) (blk_o BK106.out)) : gb106 ≠ gb124))) (am ((by rw [hg]; exact Nat.ne_of_gt (blk_lt (g := gb106) (o := .cells #[.int .i64 ((rd_T69 l0 x42_2).f0), .slice A105_1 ((rd_T69 l0 x42_2).f1).length c105_1] 69 (0, 0)) (blk_o BK106.out)) : gb124 ≠ gb106))) ?_; clear HO_8 HO_9 BK106 HB; intro HO_8 HO_9 BK106 HB BK124 GW124 NB106_124 NB124_106; have GE124 := GW124; clear hb hbox hg; have hnb54 := NB124_106.out; have hnc54 := NB106_124.out; obtain ⟨hcz55_0, hcz55_1, hcz55_2, hcz55_3, hfz55_0, hfz55_1, hfz55_2, hfz55_3⟩ := cells4 BK124.out) | ((with_reducible refine gate_store (t := 46) (p := 18) rfl ?_); refine store_event (t := 46) (p := 18) (v := ?vo_w56) (w1 := ((((w53.setCell ⟨gb124, 0, none⟩ (.int .i64 ((rd_T46 l1 x65_3).f0))).setCell ⟨gb124, 1, none⟩ (.int .i64 ((rd_T46 l1 x65_3).f1))).setCell ⟨gb124, 2, none⟩ (.int .i64 ((rd_T46 l1 x65_3).f2))).setCell ⟨gb124, 3, none⟩ (.slice A123_3 ((rd_T46 l1 x65_3).f3).length c123_3))) ?hg ?ho ?hn ?hr ?_; (case ho => rfl); (case hg => rfl); (case hn => rfl); (case hr => go_simp; try rfl); intro w56 hw; refine mv5 (⟨(by rw [hw]; exact (Kd.R_o (Kd.R_mono (Kd.R_far (p := ⟨gb124, 3, none⟩) (Kd.R_far (p := ⟨gb124, 2, none⟩) (Kd.R_far (p := ⟨gb124, 1, none⟩) (Kd.R_far (p := ⟨gb124, 0, none⟩) (Kd.R_types HO_8.out BK124.out (by decide)) (fun _ hk => hk.2) (.int .i64 ((rd_T46 l1 x65_3).f0))) (fun _ hk => hk.2) (.int .i64 ((rd_T46 l1 x65_3).f1))) (fun _ hk => hk.2) (.int .i64 ((rd_T46 l1 x65_3).f2))) (fun _ hk => hk.2) (.slice A123_3 ((rd_T46 l1 x65_3).f3).length c123_3)) (fun _ hk => trivial))))⟩ : Aside0 (Kd.R (Kd.int .u8) 5 w56 w.heap.size (fun _ => True) u8 x8_3)) (⟨(by rw [hw]; exact (Kd.R_o (Kd.R_mono (Kd.R_far (p := ⟨gb124, 3, none⟩) (Kd.R_far (p := ⟨gb124, 2, none⟩) (Kd.R_far (p := ⟨gb124, 1, none⟩) (Kd.R_far (p := ⟨gb124, 0, none⟩) (Kd.R_types HO_9.out BK124.out (by decide)) (fun _ hk => hk.2) (.int .i64 ((rd_T46 l1 x65_3).f0))) (fun _ hk => hk.2) (.int .i64 ((rd_T46 l1 x65_3).f1))) (fun _ hk => hk.2) (.int .i64 ((rd_T46 l1 x65_3).f2))) (fun _ hk => hk.2) (.slice A123_3 ((rd_T46 l1 x65_3).f3).length c123_3)) (fun _ hk => trivial))))⟩ : Aside0 (Kd.R (Kd.int .i64) 3 w56 w.heap.size (fun _ => True) u9 x9_3)) (⟨(by rw [hw]; exact (by (with_reducible repeat (first | refine blk_drewN ?_ _ | refine blk_drew ?_ | refine blk_alloc ?_ _)); refine blk_far ?_ NB106_124.out _; (with_reducible repeat (first | refine blk_drewN ?_ _ | refine blk_drew ?_ | refine blk_alloc ?_ _)); refine blk_far ?_ NB106_124.out _; (with_reducible repeat (first | refine blk_drewN ?_ _ | refine blk_drew ?_ | refine blk_alloc ?_ _)); refine blk_far ?_ NB106_124.out _; (with_reducible repeat (first | refine blk_drewN ?_ _ | refine blk_drew ?_ | refine blk_alloc ?_ _)); refine blk_far ?_ NB106_124.out _; (with_reducible repeat (first | refine blk_drewN ?_ _ | refine blk_drew ?_ | refine blk_alloc ?_ _)); exact BK106.out))⟩ : Aside0 (w56.heap[gb106]? = some (.cells #[.int .i64 ((rd_T69 l0 x42_2).f0), .slice A105_1 ((rd_T69 l0 x42_2).f1).length c105_1] 69 (0, 0)))) (⟨(by rw [hw]; exact (bps BK124.out rfl))⟩ : Aside0 (w56.heap[gb124]? = some (.cells #[.int .i64 ((rd_T46 l1 x65_3).f0), .int .i64 ((rd_T46 l1 x65_3).f1), .int .i64 ((rd_T46 l1 x65_3).f2), .slice A123_3 ((rd_T46 l1 x65_3).f3).length c123_3] 46 (0, 0)))) (⟨(by rw [hw]; exact (by exact bl_g HB.out))⟩ : Aside0 (Below w.heap.size w w56)) ?_; clear hw HO_8 HO_9 BK106 BK124 HB; intro HO_8 HO_9 BK106 BK124 HB; obtain ⟨hcz57_0, hcz57_1, hcz57_2, hcz57_3, hfz57_0, hfz57_1, hfz57_2, hfz57_3⟩ := cells4 BK124.out; obtain ⟨Ao58, co58, eo58⟩ := Kd.R_slice HO_8.out; subst eo58; have p40 : 0 ≤ (x65_3 : Int) := od; have q40 : (x65_3 : Int) < ((x9_3.length : Int) : Int) := od; obtain ⟨go40, co40, eo40, gb40, gl40, cl40, HG40⟩ := Kd.R_form HO_9.out (by omega); (first | cases eo40 | (injection eo40 with ea_ en_ ec_; (first | subst ea_ | (injection ea_ with ea_; subst ea_)); subst ec_; clear en_)); have GB40 := am gb40; have GG40 := am HG40; clear gb40 gl40 HG40; obtain ⟨hx40_0, hf40_0⟩ := Kd.R_celln 0 HO_9.out (x65_3 : Int) p40 q40; replace p40 := eq_true p40; replace q40 := eq_true q40; obtain ⟨hy59_, hz59_⟩ := Kd.R_celln 0 HO_9.out (x65_3 : Int) (od) (od); have HP59 := Kd.R_putg HO_9.out (x65_3 : Int) (x8_3.length : Int)) | ((with_reducible refine gate_store (t := 3) (p := 78) rfl ?_); refine store_event (t := 3) (p := 78) (v := ?vo_w60) (w1 := (w56.setCell ⟨go40, (x65_3 : Int).toNat, none⟩ (.int .i64 (x8_3.length : Int)))) ?hg ?ho ?hn ?hr ?_; (case ho => rfl); (case hg => rfl); (case hn => rfl); (case hr => go_simp; try rfl); intro w60 hw; have hg : w56.grownBy w60 (some go40) := (by rw [hw]; exact HP59.2); have hp_ : Kd.R (Kd.int .i64) 3 w60 w.heap.size (fun _ => True) (.slice (some ⟨go40, 0, none⟩) x9_3.length co40) y125 := (by rw [hw, Ny125.out]; exact HP59.1); clear HP59; refine mv5 (am (Kd.R_over' (v := (.slice (some ⟨go40, 0, none⟩) x9_3.length co40)) (Kd.R_o HO_8.out) (Kd.R_typed HO_9.out) (by decide) hg)) (am (hp_)) (am (blk_grown (g := gb106) (o := .cells #[.int .i64 ((rd_T69 l0 x42_2).f0), .slice A105_1 ((rd_T69 l0 x42_2).f1).length c105_1] 69 (0, 0)) (blk_o BK106.out) hg (Kd.R_ne HO_9.out BK106.out (by decide)))) (am (blk_grown (g := gb124) (o := .cells #[.int .i64 ((rd_T46 l1 x65_3).f0), .int .i64 ((rd_T46 l1 x65_3).f1), .int .i64 ((rd_T46 l1 x65_3).f2), .slice A123_3 ((rd_T46 l1 x65_3).f3).length c123_3] 46 (0, 0)) (blk_o BK124.out) hg (Kd.R_ne HO_9.out BK124.out (by decide)))) (am ((by rw [hw]; exact below_set (HB.out) GB40.out : Below w.heap.size w w60))) ?_; clear HO_8 HO_9 BK106 BK124 HB; intro HO_8 HO_9 BK106 BK124 HB; clear hg hw hp_) | ((with_reducible refine gate_callee (f := 26) rfl ?_); refine goesL_ (some 84) rfl rfl Try.func26 (by kernel_rfl) rfl #[.int .i64 (wrap64 ((wrap64 ((x8_3.length : Int) + 4)) - (x8_2.length : Int)))] rfl (by simp only [ml]; try rfl) ?_; (with_reducible refine (ehframe_low.calls k3 (wrap64 ((wrap64 ((x8_3.length : Int) + 4)) - (x8_2.length : Int))) t126 _ A41.out).mono ?_); rintro e w61 ⟨v127, rfl, ho0, hb⟩; refine ⟨_, rfl, ?_⟩; refine mv6 (am (Kd.R_elder' (Kd.R_o HO_8.out) (Kd.R_base ho0) hb)) (am (Kd.R_below (Kd.R_o HO_9.out) hb)) (am (Kd.R_lower (Kd.R_new' ho0 (Kd.R_lt (Kd.R_o HO_8.out))) (below_size (by exact bl_g HB.out)))) (am (blk_below (blk_o BK106.out) hb)) (am (blk_below (blk_o BK124.out) hb)) (am (below_step (by exact bl_g HB.out) hb)) ?_; clear HO_8 HO_9 BK106 BK124 HB; intro HO_8 HO_9 HO128 BK106 BK124 HB; obtain ⟨hcz62_0, hcz62_1, hfz62_0, hfz62_1⟩ := cells2 BK106.out; obtain ⟨hcz63_0, hcz63_1, hcz63_2, hcz63_3, hfz63_0, hfz63_1, hfz63_2, hfz63_3⟩ := cells4 BK124.out) | ((with_reducible refine gate_callee (f := 16) rfl ?_); refine goesL_ (some 95) rfl rfl Try.func16 (by kernel_rfl) rfl #[.int .i64 ((rd_T69 l0 x42_2).f0), .int .i64 ((rd_T46 l1 x65_3).f1), .int .i64 (wrap64 ((wrap64 (a2 + (x8_3.length : Int))) + 8)), .int .i64 0] rfl (by simp only [ml]; try rfl) ?_; (with_reducible refine (ehframe_Put.calls k3 ((rd_T69 l0 x42_2).f0) ((rd_T46 l1 x65_3).f1) (wrap64 ((wrap64 (a2 + (x8_3.length : Int))) + 8)) 0 t129 t130 _ A42.out).mono ?_); rintro e w64 ⟨v131, rfl, ho0, hb⟩; refine ⟨_, rfl, ?_⟩; refine mv7 (am (Kd.R_elder' (Kd.R_o HO_8.out) (Kd.R_base ho0) hb)) (am (Kd.R_below (Kd.R_o HO_9.out) hb)) (am (Kd.R_elder' (Kd.R_o HO128.out) (Kd.R_base ho0) hb)) (am (Kd.R_lower (Kd.R_new' (Kd.R_new' ho0 (Kd.R_lt (Kd.R_o HO_8.out))) (Kd.R_lt (Kd.R_o HO128.out))) (below_size (by exact bl_g HB.out)))) (am (blk_below (blk_o BK106.out) hb)) (am (blk_below (blk_o BK124.out) hb)) (am (below_step (by exact bl_g HB.out) hb)) ?_; clear HO_8 HO_9 HO128 BK106 BK124 HB; intro HO_8 HO_9 HO128 HO132 BK106 BK124 HB; obtain ⟨hcz65_0, hcz65_1, hfz65_0, hfz65_1⟩ := cells2 BK106.out; obtain ⟨hcz66_0, hcz66_1, hcz66_2, hcz66_3, hfz66_0, hfz66_1, hfz66_2, hfz66_3⟩ := cells4 BK124.out) | ((with_reducible refine gate_callee (f := 16) rfl ?_); refine goesL_ (some 106) rfl rfl Try.func16 (by kernel_rfl) rfl #[.int .i64 (Go.bits .and .i64 ((rd_T69 l0 x42_2).f0) 15), .int .i64 ((rd_T46 l1 x65_3).f2), .int .i64 0, .int .i64 0] rfl (by simp only [ml]; try rfl) ?_; (with_reducible refine (ehframe_Put.calls k3 (Go.bits .and .i64 ((rd_T69 l0 x42_2).f0) 15) ((rd_T46 l1 x65_3).f2) 0 0 t133 t134 _ A44.out).mono ?_); rintro e w67 ⟨v135, rfl, ho0, hb⟩; refine ⟨_, rfl, ?_⟩; refine mv8 (am (Kd.R_elder' (Kd.R_o HO_8.out) (Kd.R_base ho0) hb)) (am (Kd.R_below (Kd.R_o HO_9.out) hb)) (am (Kd.R_elder' (Kd.R_o HO128.out) (Kd.R_base ho0) hb)) (am (Kd.R_elder' (Kd.R_o HO132.out) (Kd.R_base ho0) hb)) (am (Kd.R_lower (Kd.R_new' (Kd.R_new' (Kd.R_new' ho0 (Kd.R_lt (Kd.R_o HO_8.out))) (Kd.R_lt (Kd.R_o HO128.out))) (Kd.R_lt (Kd.R_o HO132.out))) (below_size (by exact bl_g HB.out)))) (am (blk_below (blk_o BK106.out) hb)) (am (blk_below (blk_o BK124.out) hb)) (am (below_step (by exact bl_g HB.out) hb)) ?_; clear HO_8 HO_9 HO128 HO132 BK106 BK124 HB; intro HO_8 HO_9 HO128 HO132 HO136 BK106 BK124 HB; obtain ⟨hcz68_0, hcz68_1, hcz68_2, hcz68_3, hfz68_0, hfz68_1, hfz68_2, hfz68_3⟩ := cells4 BK124.out) | ((with_reducible refine gate_callee (f := 23) rfl ?_); refine goesL_ (some 114) rfl rfl Try.func23 (by kernel_rfl) rfl #[.slice A123_3 ((rd_T46 l1 x65_3).f3).length c123_3] rfl (by simp only [ml]; try rfl) ?_; (with_reducible refine (cfa_Write.calls k3 _ _ ((rd_T46 l1 x65_3).f3) t137 t138 _ ?side1 ?side2 A46.out).mono ?_); (case side1 => exact Kd.C_o (Kd.C_below HR123_3.out HB.out)); (case side2 => exact HC123_3.out); rintro e w69 ⟨v139, rfl, ho0, hb⟩; refine ⟨_, rfl, ?_⟩; refine mv9 (am (Kd.R_elder' (Kd.R_o HO_8.out) (Kd.R_base ho0) hb)) (am (Kd.R_below (Kd.R_o HO_9.out) hb)) (am (Kd.R_elder' (Kd.R_o HO128.out) (Kd.R_base ho0) hb)) (am (Kd.R_elder' (Kd.R_o HO132.out) (Kd.R_base ho0) hb)) (am (Kd.R_elder' (Kd.R_o HO136.out) (Kd.R_base ho0) hb)) (am (Kd.R_lower (Kd.R_new' (Kd.R_new' (Kd.R_new' (Kd.R_new' ho0 (Kd.R_lt (Kd.R_o HO_8.out))) (Kd.R_lt (Kd.R_o HO128.out))) (Kd.R_lt (Kd.R_o HO132.out))) (Kd.R_lt (Kd.R_o HO136.out))) (below_size (by exact bl_g HB.out)))) (am (blk_below (blk_o BK106.out) hb)) (am (blk_below (blk_o BK124.out) hb)) (am (below_step (by exact bl_g HB.out) hb)) ?_; clear HO_8 HO_9 HO128 HO132 HO136 BK106 BK124 HB; intro HO_8 HO_9 HO128 HO132 HO136 HO140 BK106 BK124 HB; obtain ⟨Ao71, co71, eo71⟩ := Kd.R_slice HO132.out; subst eo71) | ((with_reducible refine gate_builtin (b := .append) (xs := #[.tmp 117, .tmp 118]) rfl ?_); at_builtin; refine Kd.R_append_rows (Kd.int .u8) (w0 := w) w.heap.size rfl (.tmp 117) (.tmp 118) 28 5 (.int .u8 0) 1 rfl Try.underlying28 info5 rfl (by decide) (by omega) v127 t126 t129 _ _ _ (fun k_ => some k_ ≠ (.slice Ao58 x8_3.length co58 : Value).ownBlock ∧ some k_ ≠ (.slice Ao71 t129.length co71 : Value).ownBlock ∧ some k_ ≠ (v135 : Value).ownBlock ∧ some k_ ≠ (v139 : Value).ownBlock) (fun _ => False) rfl rfl ?aO ?aR (fun _ _ h => h) (fun _ h => h.elim) ?aF ?aB ?aS ?aL ?_; (case aR => exact Kd.C_o ((Kd.R_reads' HO132.out).2.2)); (case aB => exact (by exact bl_g HB.out)); (case aF => exact (fun k_ hk => ⟨Kd.fresh' (Kd.R_lt (Kd.R_o HO_8.out)) k_ hk, Kd.fresh' (Kd.R_lt (Kd.R_o HO132.out)) k_ hk, Kd.fresh' (Kd.R_lt (Kd.R_o HO136.out)) k_ hk, Kd.fresh' (Kd.R_lt (Kd.R_o HO140.out)) k_ hk⟩)); (case aO => exact (Kd.R_o (Kd.R_mono HO128.out (fun _ hk => ⟨hk.1.1.1.2, ⟨hk.1.1.2, ⟨hk.1.2, hk.2⟩⟩⟩)))); (case aS => exact (below_size (by exact bl_g HB.out))); (case aL => have := LMc47.out; omega); intro v142 w70 ho hb hg hat; rw [← Ny141.out] at ho; refine mv9 (am (Kd.R_after (ok := (fun k_ => some k_ ≠ (.slice Ao71 t129.length co71 : Value).ownBlock ∧ some k_ ≠ (v135 : Value).ownBlock ∧ some k_ ≠ (v139 : Value).ownBlock)) (Kd.R_o (Kd.R_mono HO_8.out (fun _ hk => ⟨⟨hk.1.1.2, ⟨hk.1.2, hk.2⟩⟩, hk.1.1.1.2⟩))) hg hat)) (am (Kd.R_over' (Kd.R_o HO_9.out) (Kd.R_typed (Kd.R_o HO128.out)) (by decide) hg)) (am (blk_grown (g := gb106) (o := .cells #[.int .i64 ((rd_T69 l0 x42_2).f0), .slice A105_1 ((rd_T69 l0 x42_2).f1).length c105_1] 69 (0, 0)) (blk_o BK106.out) hg (Kd.R_ne HO128.out BK106.out (by decide)))) (am (blk_grown (g := gb124) (o := .cells #[.int .i64 ((rd_T46 l1 x65_3).f0), .int .i64 ((rd_T46 l1 x65_3).f1), .int .i64 ((rd_T46 l1 x65_3).f2), .slice A123_3 ((rd_T46 l1 x65_3).f3).length c123_3] 46 (0, 0)) (blk_o BK124.out) hg (Kd.R_ne HO128.out BK124.out (by decide)))) (am (Kd.R_after (ok := (fun k_ => some k_ ≠ (.slice Ao58 x8_3.length co58 : Value).ownBlock ∧ some k_ ≠ (v135 : Value).ownBlock ∧ some k_ ≠ (v139 : Value).ownBlock)) (Kd.R_o (Kd.R_mono HO132.out (fun _ hk => ⟨⟨hk.1.1.1.2, ⟨hk.1.2, hk.2⟩⟩, hk.1.1.2⟩))) hg hat)) (am (Kd.R_after (ok := (fun k_ => some k_ ≠ (.slice Ao58 x8_3.length co58 : Value).ownBlock ∧ some k_ ≠ (.slice Ao71 t129.length co71 : Value).ownBlock ∧ some k_ ≠ (v139 : Value).ownBlock)) (Kd.R_o (Kd.R_mono HO136.out (fun _ hk => ⟨⟨hk.1.1.1.2, ⟨hk.1.2, hk.2⟩⟩, hk.1.1.2⟩))) hg hat)) (am (Kd.R_after (ok := (fun k_ => some k_ ≠ (.slice Ao58 x8_3.length co58 : Value).ownBlock ∧ some k_ ≠ (.slice Ao71 t129.length co71 : Value).ownBlock ∧ some k_ ≠ (v135 : Value).ownBlock)) (Kd.R_o (Kd.R_mono HO140.out (fun _ hk => ⟨⟨hk.1.1.1.2, ⟨hk.1.2, hk.2⟩⟩, hk.1.1.2⟩))) hg hat)) (am (hb)) (am (ho)) ?_; clear HO_8 HO_9 BK106 BK124 HO132 HO136 HO140 HB HO128; intro HO_8 HO_9 BK106 BK124 HO132 HO136 HO140 HB HO143; clear ho hb hg hat; obtain ⟨Ao73, co73, eo73⟩ := Kd.R_slice HO136.out; subst eo73) | ((with_reducible refine gate_builtin (b := .append) (xs := #[.tmp 119, .tmp 120]) rfl ?_); at_builtin; refine Kd.R_append_rows (Kd.int .u8) (w0 := w) w.heap.size rfl (.tmp 119) (.tmp 120) 28 5 (.int .u8 0) 1 rfl Try.underlying28 info5 rfl (by decide) (by omega) v142 y141 t133 _ _ _ (fun k_ => some k_ ≠ (.slice Ao58 x8_3.length co58 : Value).ownBlock ∧ some k_ ≠ (.slice Ao71 t129.length co71 : Value).ownBlock ∧ some k_ ≠ (.slice Ao73 t133.length co73 : Value).ownBlock ∧ some k_ ≠ (v139 : Value).ownBlock) (fun _ => False) rfl rfl ?aO ?aR (fun _ _ h => h) (fun _ h => h.elim) ?aF ?aB ?aS ?aL ?_; (case aR => exact Kd.C_o ((Kd.R_reads' HO136.out).2.2)); (case aB => exact (by exact bl_g HB.out)); (case aF => exact (fun k_ hk => ⟨Kd.fresh' (Kd.R_lt (Kd.R_o HO_8.out)) k_ hk, Kd.fresh' (Kd.R_lt (Kd.R_o HO132.out)) k_ hk, Kd.fresh' (Kd.R_lt (Kd.R_o HO136.out)) k_ hk, Kd.fresh' (Kd.R_lt (Kd.R_o HO140.out)) k_ hk⟩)); (case aO => exact (Kd.R_o HO143.out)); (case aS => exact (below_size (by exact bl_g HB.out))); (case aL => have := LMc48.out; omega); intro v145 w72 ho hb hg hat; rw [← Ny144.out] at ho; refine mv9 (am (Kd.R_after (ok := (fun k_ => some k_ ≠ (.slice Ao71 t129.length co71 : Value).ownBlock ∧ some k_ ≠ (.slice Ao73 t133.length co73 : Value).ownBlock ∧ some k_ ≠ (v139 : Value).ownBlock)) (Kd.R_o HO_8.out) hg hat)) (am (Kd.R_over' (Kd.R_o HO_9.out) (Kd.R_typed (Kd.R_o HO143.out)) (by decide) hg)) (am (blk_grown (g := gb106) (o := .cells #[.int .i64 ((rd_T69 l0 x42_2).f0), .slice A105_1 ((rd_T69 l0 x42_2).f1).length c105_1] 69 (0, 0)) (blk_o BK106.out) hg (Kd.R_ne HO143.out BK106.out (by decide)))) (am (blk_grown (g := gb124) (o := .cells #[.int .i64 ((rd_T46 l1 x65_3).f0), .int .i64 ((rd_T46 l1 x65_3).f1), .int .i64 ((rd_T46 l1 x65_3).f2), .slice A123_3 ((rd_T46 l1 x65_3).f3).length c123_3] 46 (0, 0)) (blk_o BK124.out) hg (Kd.R_ne HO143.out BK124.out (by decide)))) (am (Kd.R_after (ok := (fun k_ => some k_ ≠ (.slice Ao58 x8_3.length co58 : Value).ownBlock ∧ some k_ ≠ (.slice Ao73 t133.length co73 : Value).ownBlock ∧ some k_ ≠ (v139 : Value).ownBlock)) (Kd.R_o HO132.out) hg hat)) (am (Kd.R_after (ok := (fun k_ => some k_ ≠ (.slice Ao58 x8_3.length co58 : Value).ownBlock ∧ some k_ ≠ (.slice Ao71 t129.length co71 : Value).ownBlock ∧ some k_ ≠ (v139 : Value).ownBlock)) (Kd.R_o HO136.out) hg hat)) (am (Kd.R_after (ok := (fun k_ => some k_ ≠ (.slice Ao58 x8_3.length co58 : Value).ownBlock ∧ some k_ ≠ (.slice Ao71 t129.length co71 : Value).ownBlock ∧ some k_ ≠ (.slice Ao73 t133.length co73 : Value).ownBlock)) (Kd.R_o HO140.out) hg hat)) (am (hb)) (am (ho)) ?_; clear HO_8 HO_9 BK106 BK124 HO132 HO136 HO140 HB HO143; intro HO_8 HO_9 BK106 BK124 HO132 HO136 HO140 HB HO146; clear ho hb hg hat) | ((with_reducible refine gate_builtin (b := .append) (xs := #[.tmp 121, .tmp 122]) rfl ?_); at_builtin; refine Kd.R_append (Kd.int .u8) (w0 := w) w.heap.size rfl (.tmp 121) (.tmp 122) 28 5 (.int .u8 0) 1 rfl Try.underlying28 info5 rfl (by decide) (by omega) v145 y144 0 [.int .u8 0] (fun k_ => some k_ ≠ (.slice Ao58 x8_3.length co58 : Value).ownBlock ∧ some k_ ≠ (.slice Ao71 t129.length co71 : Value).ownBlock ∧ some k_ ≠ (.slice Ao73 t133.length co73 : Value).ownBlock ∧ some k_ ≠ (v139 : Value).ownBlock) (fun _ => False) rfl rfl ?aP (fun _ hk => hk.elim) ?aF ?aO ?aB ?aS ?aL ?_; (case aP => exact rfl); (case aB => exact (by exact bl_g HB.out)); (case aF => exact (fun k_ hk => ⟨Kd.fresh' (Kd.R_lt (Kd.R_o HO_8.out)) k_ hk, Kd.fresh' (Kd.R_lt (Kd.R_o HO132.out)) k_ hk, Kd.fresh' (Kd.R_lt (Kd.R_o HO136.out)) k_ hk, Kd.fresh' (Kd.R_lt (Kd.R_o HO140.out)) k_ hk⟩)); (case aO => exact (Kd.R_o HO146.out)); (case aS => exact (below_size (by exact bl_g HB.out))); (case aL => have := LMc49.out; omega); intro v148 w74 ho hb hg hat; rw [← Ny147.out] at ho; refine mv9 (am (Kd.R_after (ok := (fun k_ => some k_ ≠ (.slice Ao71 t129.length co71 : Value).ownBlock ∧ some k_ ≠ (.slice Ao73 t133.length co73 : Value).ownBlock ∧ some k_ ≠ (v139 : Value).ownBlock)) (Kd.R_o HO_8.out) hg hat)) (am (Kd.R_over' (Kd.R_o HO_9.out) (Kd.R_typed (Kd.R_o HO146.out)) (by decide) hg)) (am (blk_grown (g := gb106) (o := .cells #[.int .i64 ((rd_T69 l0 x42_2).f0), .slice A105_1 ((rd_T69 l0 x42_2).f1).length c105_1] 69 (0, 0)) (blk_o BK106.out) hg (Kd.R_ne HO146.out BK106.out (by decide)))) (am (blk_grown (g := gb124) (o := .cells #[.int .i64 ((rd_T46 l1 x65_3).f0), .int .i64 ((rd_T46 l1 x65_3).f1), .int .i64 ((rd_T46 l1 x65_3).f2), .slice A123_3 ((rd_T46 l1 x65_3).f3).length c123_3] 46 (0, 0)) (blk_o BK124.out) hg (Kd.R_ne HO146.out BK124.out (by decide)))) (am (Kd.R_after (ok := (fun k_ => some k_ ≠ (.slice Ao58 x8_3.length co58 : Value).ownBlock ∧ some k_ ≠ (.slice Ao73 t133.length co73 : Value).ownBlock ∧ some k_ ≠ (v139 : Value).ownBlock)) (Kd.R_o HO132.out) hg hat)) (am (Kd.R_after (ok := (fun k_ => some k_ ≠ (.slice Ao58 x8_3.length co58 : Value).ownBlock ∧ some k_ ≠ (.slice Ao71 t129.length co71 : Value).ownBlock ∧ some k_ ≠ (v139 : Value).ownBlock)) (Kd.R_o HO136.out) hg hat)) (am (Kd.R_after (ok := (fun k_ => some k_ ≠ (.slice Ao58 x8_3.length co58 : Value).ownBlock ∧ some k_ ≠ (.slice Ao71 t129.length co71 : Value).ownBlock ∧ some k_ ≠ (.slice Ao73 t133.length co73 : Value).ownBlock)) (Kd.R_o HO140.out) hg hat)) (am (hb)) (am (ho)) ?_; clear HO_8 HO_9 BK106 BK124 HO132 HO136 HO140 HB HO146; intro HO_8 HO_9 BK106 BK124 HO132 HO136 HO140 HB HO149; clear ho hb hg hat; obtain ⟨Ao76, co76, eo76⟩ := Kd.R_slice HO140.out; subst eo76) | ((with_reducible refine gate_builtin (b := .append) (xs := #[.tmp 123, .tmp 124]) rfl ?_); at_builtin; refine Kd.R_append_rows (Kd.int .u8) (w0 := w) w.heap.size rfl (.tmp 123) (.tmp 124) 28 5 (.int .u8 0) 1 rfl Try.underlying28 info5 rfl (by decide) (by omega) v148 y147 t137 _ _ _ (fun k_ => some k_ ≠ (.slice Ao58 x8_3.length co58 : Value).ownBlock ∧ some k_ ≠ (.slice Ao71 t129.length co71 : Value).ownBlock ∧ some k_ ≠ (.slice Ao73 t133.length co73 : Value).ownBlock ∧ some k_ ≠ (.slice Ao76 t137.length co76 : Value).ownBlock) (fun _ => False) rfl rfl ?aO ?aR (fun _ _ h => h) (fun _ h => h.elim) ?aF ?aB ?aS ?aL ?_; (case aR => exact Kd.C_o ((Kd.R_reads' HO140.out).2.2)); (case aB => exact (by exact bl_g HB.out)); (case aF => exact (fun k_ hk => ⟨Kd.fresh' (Kd.R_lt (Kd.R_o HO_8.out)) k_ hk, Kd.fresh' (Kd.R_lt (Kd.R_o HO132.out)) k_ hk, Kd.fresh' (Kd.R_lt (Kd.R_o HO136.out)) k_ hk, Kd.fresh' (Kd.R_lt (Kd.R_o HO140.out)) k_ hk⟩)); (case aO => exact (Kd.R_o HO149.out)); (case aS => exact (below_size (by exact bl_g HB.out))); (case aL => have := LMc50.out; omega); intro v151 w75 ho hb hg hat; rw [← Ny150.out] at ho; refine mv9 (am (Kd.R_after (ok := (fun k_ => some k_ ≠ (.slice Ao71 t129.length co71 : Value).ownBlock ∧ some k_ ≠ (.slice Ao73 t133.length co73 : Value).ownBlock ∧ some k_ ≠ (.slice Ao76 t137.length co76 : Value).ownBlock)) (Kd.R_o HO_8.out) hg hat)) (am (Kd.R_over' (Kd.R_o HO_9.out) (Kd.R_typed (Kd.R_o HO149.out)) (by decide) hg)) (am (blk_grown (g := gb106) (o := .cells #[.int .i64 ((rd_T69 l0 x42_2).f0), .slice A105_1 ((rd_T69 l0 x42_2).f1).length c105_1] 69 (0, 0)) (blk_o BK106.out) hg (Kd.R_ne HO149.out BK106.out (by decide)))) (am (blk_grown (g := gb124) (o := .cells #[.int .i64 ((rd_T46 l1 x65_3).f0), .int .i64 ((rd_T46 l1 x65_3).f1), .int .i64 ((rd_T46 l1 x65_3).f2), .slice A123_3 ((rd_T46 l1 x65_3).f3).length c123_3] 46 (0, 0)) (blk_o BK124.out) hg (Kd.R_ne HO149.out BK124.out (by decide)))) (am (Kd.R_after (ok := (fun k_ => some k_ ≠ (.slice Ao58 x8_3.length co58 : Value).ownBlock ∧ some k_ ≠ (.slice Ao73 t133.length co73 : Value).ownBlock ∧ some k_ ≠ (.slice Ao76 t137.length co76 : Value).ownBlock)) (Kd.R_o HO132.out) hg hat)) (am (Kd.R_after (ok := (fun k_ => some k_ ≠ (.slice Ao58 x8_3.length co58 : Value).ownBlock ∧ some k_ ≠ (.slice Ao71 t129.length co71 : Value).ownBlock ∧ some k_ ≠ (.slice Ao76 t137.length co76 : Value).ownBlock)) (Kd.R_o HO136.out) hg hat)) (am (Kd.R_after (ok := (fun k_ => some k_ ≠ (.slice Ao58 x8_3.length co58 : Value).ownBlock ∧ some k_ ≠ (.slice Ao71 t129.length co71 : Value).ownBlock ∧ some k_ ≠ (.slice Ao73 t133.length co73 : Value).ownBlock)) (Kd.R_o HO140.out) hg hat)) (am (hb)) (am (ho)) ?_; clear HO_8 HO_9 BK106 BK124 HO132 HO136 HO140 HB HO149; intro HO_8 HO_9 BK106 BK124 HO132 HO136 HO140 HB HO152; clear ho hb hg hat; obtain ⟨Ao77, co77, eo77⟩ := Kd.R_slice HO152.out; subst eo77) | ((with_reducible refine gate_callee (f := 24) rfl ?_); refine goesL_ (some 128) rfl rfl Try.func24 (by kernel_rfl) rfl #[.slice Ao77 y150.length co77] rfl (by simp only [ml]; try rfl) ?_; (with_reducible refine (ehframe_record.calls k3 (fun k_ => some k_ = (.slice Ao77 y150.length co77 : Value).ownBlock) (.slice Ao77 y150.length co77) y150 t153 w _ ?side1 ?side2 A51.out).mono ?_); (case side1 => repeat (first | (with_reducible first | exact HB.out | apply below_alloc | apply pw_below_drewN | apply below_drew1 | refine below_set ?_ GE106.out | refine below_set ?_ GE124.out) | exact HB.out)); (case side2 => exact Kd.R_tight rfl HO152.out); rintro e w78 ⟨v154, rfl, ho0, hb, hkp⟩; refine ⟨_, rfl, ?_⟩; refine mv9 (am (Kd.R_mono (ok' := fun k_ => some k_ ≠ (.slice Ao71 t129.length co71 : Value).ownBlock ∧ some k_ ≠ (.slice Ao73 t133.length co73 : Value).ownBlock ∧ some k_ ≠ (.slice Ao76 t137.length co76 : Value).ownBlock ∧ some k_ ≠ (v154 : Value).ownBlock) (Kd.R_keptB (HO_8.out) hkp (fun k_ hk_ hs_ => (hk_.2) hs_)) (fun k_ hk_ => ⟨hk_.1.1.1, hk_.1.1.2.1, hk_.1.1.2.2, fun e_ => Or.elim (ho0.1 k_ e_.symm) (fun hs_ => hk_.2.1 hs_) (fun hn_ => Nat.not_le.2 hk_.2.2 hn_)⟩))) (am (Kd.R_mono (ok' := fun k_ => True) (Kd.R_keptB ((Kd.R_apart' HO_9.out (Kd.R_typed HO152.out) (by decide))) hkp (fun k_ hk_ hs_ => (hk_.2) hs_)) (fun k_ hk_ => trivial))) (am (blk_kept (blk_o BK106.out) hkp (fun hs_ => (fun e_ => (Kd.R_ne HO152.out BK106.out (by decide)) e_) hs_))) (am (blk_kept (blk_o BK124.out) hkp (fun hs_ => (fun e_ => (Kd.R_ne HO152.out BK124.out (by decide)) e_) hs_))) (am (Kd.R_mono (ok' := fun k_ => some k_ ≠ (.slice Ao58 x8_3.length co58 : Value).ownBlock ∧ some k_ ≠ (.slice Ao73 t133.length co73 : Value).ownBlock ∧ some k_ ≠ (.slice Ao76 t137.length co76 : Value).ownBlock ∧ some k_ ≠ (v154 : Value).ownBlock) (Kd.R_keptB (HO132.out) hkp (fun k_ hk_ hs_ => (hk_.2) hs_)) (fun k_ hk_ => ⟨hk_.1.1.1, hk_.1.1.2.1, hk_.1.1.2.2, fun e_ => Or.elim (ho0.1 k_ e_.symm) (fun hs_ => hk_.2.1 hs_) (fun hn_ => Nat.not_le.2 hk_.2.2 hn_)⟩))) (am (Kd.R_mono (ok' := fun k_ => some k_ ≠ (.slice Ao58 x8_3.length co58 : Value).ownBlock ∧ some k_ ≠ (.slice Ao71 t129.length co71 : Value).ownBlock ∧ some k_ ≠ (.slice Ao76 t137.length co76 : Value).ownBlock ∧ some k_ ≠ (v154 : Value).ownBlock) (Kd.R_keptB (HO136.out) hkp (fun k_ hk_ hs_ => (hk_.2) hs_)) (fun k_ hk_ => ⟨hk_.1.1.1, hk_.1.1.2.1, hk_.1.1.2.2, fun e_ => Or.elim (ho0.1 k_ e_.symm) (fun hs_ => hk_.2.1 hs_) (fun hn_ => Nat.not_le.2 hk_.2.2 hn_)⟩))) (am (Kd.R_mono (ok' := fun k_ => some k_ ≠ (.slice Ao58 x8_3.length co58 : Value).ownBlock ∧ some k_ ≠ (.slice Ao71 t129.length co71 : Value).ownBlock ∧ some k_ ≠ (.slice Ao73 t133.length co73 : Value).ownBlock ∧ some k_ ≠ (v154 : Value).ownBlock) (Kd.R_keptB (HO140.out) hkp (fun k_ hk_ hs_ => (hk_.2) hs_)) (fun k_ hk_ => ⟨hk_.1.1.1, hk_.1.1.2.1, hk_.1.1.2.2, fun e_ => Or.elim (ho0.1 k_ e_.symm) (fun hs_ => hk_.2.1 hs_) (fun hn_ => Nat.not_le.2 hk_.2.2 hn_)⟩))) (am (Kd.R_mono (ok' := fun k_ => some k_ ≠ (.slice Ao58 x8_3.length co58 : Value).ownBlock ∧ some k_ ≠ (.slice Ao71 t129.length co71 : Value).ownBlock ∧ some k_ ≠ (.slice Ao73 t133.length co73 : Value).ownBlock ∧ some k_ ≠ (.slice Ao76 t137.length co76 : Value).ownBlock) ho0 (fun k_ hk_ => ⟨Or.elim hk_ (fun hs_ => fun e_ => (((HO_8.out).1 k_ e_.symm).2) hs_) (fun hn_ => (Kd.fresh' (Kd.R_lt (Kd.R_o HO_8.out)) k_ hn_)), Or.elim hk_ (fun hs_ => fun e_ => (((HO132.out).1 k_ e_.symm).2) hs_) (fun hn_ => (Kd.fresh' (Kd.R_lt (Kd.R_o HO132.out)) k_ hn_)), Or.elim hk_ (fun hs_ => fun e_ => (((HO136.out).1 k_ e_.symm).2) hs_) (fun hn_ => (Kd.fresh' (Kd.R_lt (Kd.R_o HO136.out)) k_ hn_)), Or.elim hk_ (fun hs_ => fun e_ => (((HO140.out).1 k_ e_.symm).2) hs_) (fun hn_ => (Kd.fresh' (Kd.R_lt (Kd.R_o HO140.out)) k_ hn_))⟩))) (am (hb)) ?_; clear HO_8 HO_9 BK106 BK124 HO132 HO136 HO140 HB HO152; intro HO_8 HO_9 BK106 BK124 HO132 HO136 HO140 HO155 HB; (try clear hb); (try clear hkp); (try clear ho0); obtain ⟨Ao80, co80, eo80⟩ := Kd.R_slice HO155.out; subst eo80) | ((with_reducible refine gate_builtin (b := .append) (xs := #[.tmp 126, .tmp 128]) rfl ?_); at_builtin; refine Kd.R_append_rows (Kd.int .u8) (w0 := w) w.heap.size rfl (.tmp 126) (.tmp 128) 28 5 (.int .u8 0) 1 rfl Try.underlying28 info5 rfl (by decide) (by omega) (.slice Ao58 x8_3.length co58) x8_3 t153 _ _ _ (fun k_ => some k_ ≠ (.slice Ao71 t129.length co71 : Value).ownBlock ∧ some k_ ≠ (.slice Ao73 t133.length co73 : Value).ownBlock ∧ some k_ ≠ (.slice Ao76 t137.length co76 : Value).ownBlock ∧ some k_ ≠ (.slice Ao80 t153.length co80 : Value).ownBlock) (fun _ => False) rfl rfl ?aO ?aR (fun _ _ h => h) (fun _ h => h.elim) ?aF ?aB ?aS ?aL ?_; (case aR => exact Kd.C_o ((Kd.R_reads' HO155.out).2.2)); (case aB => exact (by exact bl_g HB.out)); (case aF => exact (fun k_ hk => ⟨Kd.fresh' (Kd.R_lt (Kd.R_o HO132.out)) k_ hk, Kd.fresh' (Kd.R_lt (Kd.R_o HO136.out)) k_ hk, Kd.fresh' (Kd.R_lt (Kd.R_o HO140.out)) k_ hk, Kd.fresh' (Kd.R_lt (Kd.R_o HO155.out)) k_ hk⟩)); (case aO => exact (Kd.R_o HO_8.out)); (case aS => exact (below_size (by exact bl_g HB.out))); (case aL => have := LMc52.out; omega); intro v157 w79 ho hb hg hat; rw [← Ny156.out] at ho; refine mv9 (am (Kd.R_over' (Kd.R_o HO_9.out) (Kd.R_typed (Kd.R_o HO_8.out)) (by decide) hg)) (am (blk_grown (g := gb106) (o := .cells #[.int .i64 ((rd_T69 l0 x42_2).f0), .slice A105_1 ((rd_T69 l0 x42_2).f1).length c105_1] 69 (0, 0)) (blk_o BK106.out) hg (Kd.R_ne HO_8.out BK106.out (by decide)))) (am (blk_grown (g := gb124) (o := .cells #[.int .i64 ((rd_T46 l1 x65_3).f0), .int .i64 ((rd_T46 l1 x65_3).f1), .int .i64 ((rd_T46 l1 x65_3).f2), .slice A123_3 ((rd_T46 l1 x65_3).f3).length c123_3] 46 (0, 0)) (blk_o BK124.out) hg (Kd.R_ne HO_8.out BK124.out (by decide)))) (am (Kd.R_after (ok := (fun k_ => some k_ ≠ (.slice Ao73 t133.length co73 : Value).ownBlock ∧ some k_ ≠ (.slice Ao76 t137.length co76 : Value).ownBlock ∧ some k_ ≠ (.slice Ao80 t153.length co80 : Value).ownBlock)) (Kd.R_o (Kd.R_mono HO132.out (fun _ hk => ⟨⟨hk.2.1, ⟨hk.2.2.1, hk.2.2.2⟩⟩, hk.1⟩))) hg hat)) (am (Kd.R_after (ok := (fun k_ => some k_ ≠ (.slice Ao71 t129.length co71 : Value).ownBlock ∧ some k_ ≠ (.slice Ao76 t137.length co76 : Value).ownBlock ∧ some k_ ≠ (.slice Ao80 t153.length co80 : Value).ownBlock)) (Kd.R_o (Kd.R_mono HO136.out (fun _ hk => ⟨⟨hk.2.1, ⟨hk.2.2.1, hk.2.2.2⟩⟩, hk.1⟩))) hg hat)) (am (Kd.R_after (ok := (fun k_ => some k_ ≠ (.slice Ao71 t129.length co71 : Value).ownBlock ∧ some k_ ≠ (.slice Ao73 t133.length co73 : Value).ownBlock ∧ some k_ ≠ (.slice Ao80 t153.length co80 : Value).ownBlock)) (Kd.R_o (Kd.R_mono HO140.out (fun _ hk => ⟨⟨hk.2.1, ⟨hk.2.2.1, hk.2.2.2⟩⟩, hk.1⟩))) hg hat)) (am (Kd.R_after (ok := (fun k_ => some k_ ≠ (.slice Ao71 t129.length co71 : Value).ownBlock ∧ some k_ ≠ (.slice Ao73 t133.length co73 : Value).ownBlock ∧ some k_ ≠ (.slice Ao76 t137.length co76 : Value).ownBlock)) (Kd.R_o (Kd.R_mono HO155.out (fun _ hk => ⟨⟨hk.2.1, ⟨hk.2.2.1, hk.2.2.2⟩⟩, hk.1⟩))) hg hat)) (am (hb)) (am (ho)) ?_; clear HO_9 BK106 BK124 HO132 HO136 HO140 HO155 HB HO_8; intro HO_9 BK106 BK124 HO132 HO136 HO140 HO155 HB HO158; clear ho hb hg hat))
       go_roundg k3
       case measure => have := HJ6.out; have := HK2.out; have := HK3.out; omega
       case rel => exact ⟨(y156), (y125), (wrap64 (x65_3 + 1)), (by first | rfl | (simp; done) | (simp [*]; done)), H', ⟨by have := HJ6.out; have := HK2.out; have := HK3.out; omega⟩, ⟨by (with_reducible repeat (first | apply Kd.R_alloc | apply Kd.R_drewN | apply Kd.R_drew)); exact Kd.R_mono HO158.out (fun _ hk => trivial)⟩, ⟨by (with_reducible repeat (first | apply Kd.R_alloc | apply Kd.R_drewN | apply Kd.R_drew)); exact HO_9.out⟩, ⟨by (with_reducible repeat (first | refine blk_drewN ?_ _ | refine blk_drew ?_ | refine blk_alloc ?_ _)); exact BK106.out⟩, ⟨by exact bl_g HB.out⟩⟩
end Go.Proofs.Ytfgfnflhdabmcaa.G
end
section
namespace Go.Proofs.Ytfgfnflhdabmcaa.Cfa
open Go.RowKit Go.Proofs.Ytfgfnflhdabmcaa.G Go.Proofs.YtfgfnflhdabmcaaW.PrintWords Go.Proofs.YtfgfnflhdabmcaaW.PrintLast Go.Proofs.YtfgfnflhdabmcaaW.PrintMore
def conv (l : List S97) : List S105 := l.map fun o => ⟨o.f0, o.f1, o.f2⟩
theorem conv_length (l : List S97) : (conv l).length = l.length := by simp [conv]
end Go.Proofs.Ytfgfnflhdabmcaa.Cfa
end
section
namespace Go.Proofs.Ytfgfnflhdabmcaa.Eh
open Go.RowKit Go.Proofs.Ytfgfnflhdabmcaa.G Go.Proofs.YtfgfnflhdabmcaaW.PrintWords Go.Proofs.YtfgfnflhdabmcaaW.PrintLast Go.Proofs.YtfgfnflhdabmcaaW.PrintMore
def cieV (x : S43) : S69 := ⟨x.f0, Cfa.conv x.f1⟩
def fdeV (y : S61) : S46 := ⟨y.f0, y.f1, y.f2, Cfa.conv y.f3⟩
theorem rd_cieV (l : List S43) (n : Nat) (h : n < l.length) : rd_T69 (l.map cieV) (n : Int) = cieV (rd_T43 l (n : Int)) := by
  simp [rd_T69, rd_T43, List.getD, h]
theorem rd_fdeV (l : List S61) (n : Nat) (h : n < l.length) : rd_T46 (l.map fdeV) (n : Int) = fdeV (rd_T61 l (n : Int)) := by
  simp [rd_T46, rd_T61, List.getD, h]
theorem rd_memC (l : List S43) (n : Nat) (h : n < l.length) : rd_T43 l (n : Int) ∈ l := by
  have : rd_T43 l (n : Int) = l[n] := by simp [rd_T43, List.getD, h]
  rw [this]
  exact List.getElem_mem h
theorem rd_memF (l : List S61) (n : Nat) (h : n < l.length) : rd_T61 l (n : Int) ∈ l := by
  have : rd_T61 l (n : Int) = l[n] := by simp [rd_T61, List.getD, h]
  rw [this]
  exact List.getElem_mem h
end Go.Proofs.Ytfgfnflhdabmcaa.Eh
end
section
namespace Go.Proofs.Ytfgfnflhdabmcaa.Leb
open Go.RowKit Go.Proofs.Ytfgfnflhdabmcaa.G Go.Proofs.YtfgfnflhdabmcaaW.PrintWords Go.Proofs.YtfgfnflhdabmcaaW.PrintLast Go.Proofs.YtfgfnflhdabmcaaW.PrintMore Go.Proofs.Ytfgfnflhdabmcaa.Bit
def leB (u : Int) : Nat → List Int
  | 0 => []
  | s + 1 => u % 256 :: leB (u / 256) s
theorem leB_length (s : Nat) : ∀ u, (leB u s).length = s := by
  induction s with
  | zero => intro u; rfl
  | succ s ih => intro u; simp [leB, ih]
theorem pow256_pos (i : Nat) : (0 : Int) < 256 ^ i := Int.pow_pos (by decide +kernel)
theorem shr_bytes (u : Int) (i : Nat) (hi : i ≤ 8) : shr .u64 u (wrap64 (8 * (i : Int))) = u / 256 ^ i := by
  unfold shr
  rw [wrap64_id (by omega) (by omega), show (8 * (i : Int)).toNat = 8 * i from by omega, Nat.min_eq_left (by simp [IntKind.bits]; omega), show (2 : Int) ^ (8 * i) = 256 ^ i from by rw [Int.pow_mul]; rfl]
theorem low_l0 (d : Nat) : ∀ (k i : Nat) (u : Int) (s : Nat) (acc : List Int), s ≤ 8 → i ≤ s → s - i = d → d < k → acc.length ≤ 1000 - d → d ≤ 8 → leb_low_uint64.l0 k u acc (s : Int) (i : Int) = some (acc ++ leB (u / 256 ^ i) (s - i)) := by
  induction d with
  | zero =>
    intro k i u s acc hs hi hd hk ha _
    obtain ⟨k, rfl⟩ : ∃ m, k = m + 1 := ⟨k - 1, by omega⟩
    simp only [leb_low_uint64.l0]
    rw [if_neg (by omega), hd]
    simp [leB]
  | succ d ih =>
    intro k i u s acc hs hi hd hk ha hd8
    obtain ⟨k, rfl⟩ : ∃ m, k = m + 1 := ⟨k - 1, by omega⟩
    simp only [leb_low_uint64.l0]
    rw [if_pos (show (i : Int) < s by omega), shr_bytes u i (by omega), wrap64_id (n := 8 * (i : Int)) (by omega) (by omega), if_pos (show 0 ≤ 8 * (i : Int) by omega), if_pos (show acc.length < 140737488355328 by omega), wrap64_id (n := (i : Int) + 1) (by omega) (by omega), show (i : Int) + 1 = ((i + 1 : Nat) : Int) from by omega,
      ih k (i + 1) u s _ hs (by omega) (by omega) (by omega) (by simp; omega) (by omega), show s - i = (s - (i + 1)) + 1 from by omega]
    simp only [leB, List.append_assoc, List.singleton_append]
    rw [Int.pow_succ, Int.ediv_ediv_of_nonneg (by have := pow256_pos i; omega)]
theorem low_f (u : Int) (s : Nat) (hs : s ≤ 8) (k : Nat) (hk : 9 ≤ k) : leb_low_uint64.f k u (s : Int) = some (leB u s) := by
  unfold leb_low_uint64.f
  have := low_l0 s k 0 u s [] hs (by omega) (by omega) (by omega) (by simp) (by omega)
  simpa using this
def sizedB (s : Int) : Bool := s == 1 || s == 2 || s == 4 || s == 8
theorem sized_f (s : Int) : leb_sized.f s = some (sizedB s) := by
  unfold leb_sized.f sizedB
  by_cases h1 : s = 1
  · simp [h1]
  · by_cases h2 : s = 2
    · simp [h2]
    · by_cases h4 : s = 4
      · simp [h4]
      · simp [h1, h2, h4]
theorem sizedB_cases {s : Int} (h : sizedB s = true) : s = 1 ∨ s = 2 ∨ s = 4 ∨ s = 8 := by
  unfold sizedB at h
  simp at h
  omega
def putV (n s : Int) : List Int × Int :=
  if sizedB s = true then (if s < 8 ∧ (n < -2 ^ (8 * s.toNat - 1) ∨ 2 ^ (8 * s.toNat) ≤ n) then ([], 11) else (leB (n % 18446744073709551616) s.toNat, 0)) else ([], 1)
theorem put_f (n s : Int) (k : Nat) (hk : 9 ≤ k) : leb_Put.f k n s = some (putV n s) := by
  unfold leb_Put.f putV
  rw [sized_f, Option.bind_some]
  by_cases hs : sizedB s = true
  · rw [if_pos hs, if_pos hs, wrap_u64]
    rcases sizedB_cases hs with rfl | rfl | rfl | rfl
    · rw [show leb_low_uint64.f k (n % 18446744073709551616) 1 = _ from low_f _ 1 (by omega) k hk]
      have e1 : shl .i64 (-1) (wrap64 (wrap64 (8 * 1) - 1)) = -128 := by decide +kernel
      have e2 : shl .i64 1 (wrap64 (8 * 1)) = 256 := by decide +kernel
      rw [e1, e2, if_pos (show (1 : Int) < 8 by omega), if_pos (show 0 ≤ wrap64 (wrap64 (8 * 1) - 1) by decide +kernel), if_pos (show 0 ≤ wrap64 (8 * 1) by decide +kernel)]
      simp only [Option.bind_some]
      by_cases c1 : n < -128
      · rw [if_pos c1, if_pos (by simp; omega)]
      · rw [if_neg c1]
        by_cases c2 : n ≥ 256
        · rw [if_pos c2, if_pos (by simp; omega)]
        · rw [if_neg c2, if_neg (by simp; omega)]; rfl
    · rw [show leb_low_uint64.f k (n % 18446744073709551616) 2 = _ from low_f _ 2 (by omega) k hk]
      have e1 : shl .i64 (-1) (wrap64 (wrap64 (8 * 2) - 1)) = -32768 := by decide +kernel
      have e2 : shl .i64 1 (wrap64 (8 * 2)) = 65536 := by decide +kernel
      rw [e1, e2, if_pos (show (2 : Int) < 8 by omega), if_pos (show 0 ≤ wrap64 (wrap64 (8 * 2) - 1) by decide +kernel), if_pos (show 0 ≤ wrap64 (8 * 2) by decide +kernel)]
      simp only [Option.bind_some]
      by_cases c1 : n < -32768
      · rw [if_pos c1, if_pos (by simp; omega)]
      · rw [if_neg c1]
        by_cases c2 : n ≥ 65536
        · rw [if_pos c2, if_pos (by simp; omega)]
        · rw [if_neg c2, if_neg (by simp; omega)]; rfl
    · rw [show leb_low_uint64.f k (n % 18446744073709551616) 4 = _ from low_f _ 4 (by omega) k hk]
      have e1 : shl .i64 (-1) (wrap64 (wrap64 (8 * 4) - 1)) = -2147483648 := by decide +kernel
      have e2 : shl .i64 1 (wrap64 (8 * 4)) = 4294967296 := by decide +kernel
      rw [e1, e2, if_pos (show (4 : Int) < 8 by omega), if_pos (show 0 ≤ wrap64 (wrap64 (8 * 4) - 1) by decide +kernel), if_pos (show 0 ≤ wrap64 (8 * 4) by decide +kernel)]
      simp only [Option.bind_some]
      by_cases c1 : n < -2147483648
      · rw [if_pos c1, if_pos (by simp; omega)]
      · rw [if_neg c1]
        by_cases c2 : n ≥ 4294967296
        · rw [if_pos c2, if_pos (by simp; omega)]
        · rw [if_neg c2, if_neg (by simp; omega)]; rfl
    · rw [show leb_low_uint64.f k (n % 18446744073709551616) 8 = _ from low_f _ 8 (by omega) k hk, if_neg (show ¬ (8 : Int) < 8 by omega), if_neg (by simp)]
      rfl
  · rw [if_neg hs, if_neg hs]
end Go.Proofs.Ytfgfnflhdabmcaa.Leb
end
section
namespace Go.Proofs.Ytfgfnflhdabmcaa.G
open Go.RowKit Go.Proofs.YtfgfnflhdabmcaaW.PrintWords Go.Proofs.YtfgfnflhdabmcaaW.PrintLast Go.Proofs.YtfgfnflhdabmcaaW.PrintMore
attribute [local go_sem] max2_int min2_int max_two min_two max_three min_three max_four min_four
def gangwayref01_sized.f (a0 : Int) : Option (Bool) := if a0 = 1 then (some true) else (if a0 = 2 then (some true) else (if a0 = 4 then (some true) else (some (a0 == 8))))
set_option maxHeartbeats 8000000 in
theorem gangwayref01_sized.calls (a0 : Int) (r : Bool) (w : World) (h : gangwayref01_sized.f a0 = some r) :
    Calls Try.prog 68 #[.int .i64 a0] w fun e w' => e = .returned (.bool r) ∧ Drawn0 w w' := by
 have H : (if a0 = 1 then (some true) else (if a0 = 2 then (some true) else (if a0 = 4 then (some true) else (some (a0 == 8))))) = some r := h
 clear h
 by_cases c2 : a0 = 1
 ·
  rw [if_pos c2] at H
  have c2b0 : (a0 == 1) = true := beq_iff_eq.mpr c2
  have c2b1 : (a0 != 1) = false := bne_eq_false_iff_eq.mpr c2
  clear c2
  obtain rfl := Option.some.inj H
  go_enter Try.func68, Try.ntmps68
  go_wp2
  go_ret
  exact ⟨by first | rfl | (simp; done) | (simp [*]; done), by repeat (first | exact Drawn0.refl _ | apply Drawn0.step)⟩
 rw [if_neg c2] at H
 have c2b0 : (a0 == 1) = false := beq_eq_false_iff_ne.mpr c2
 have c2b1 : (a0 != 1) = true := bne_iff_ne.mpr c2
 by_cases c3 : a0 = 2
 ·
  rw [if_pos c3] at H
  have c3b0 : (a0 == 2) = true := beq_iff_eq.mpr c3
  have c3b1 : (a0 != 2) = false := bne_eq_false_iff_eq.mpr c3
  clear c3
  obtain rfl := Option.some.inj H
  go_enter Try.func68, Try.ntmps68
  go_wp2
  go_ret
  exact ⟨by first | rfl | (simp; done) | (simp [*]; done), by repeat (first | exact Drawn0.refl _ | apply Drawn0.step)⟩
 rw [if_neg c3] at H
 have c3b0 : (a0 == 2) = false := beq_eq_false_iff_ne.mpr c3
 have c3b1 : (a0 != 2) = true := bne_iff_ne.mpr c3
 by_cases c4 : a0 = 4
 ·
  rw [if_pos c4] at H
  have c4b0 : (a0 == 4) = true := beq_iff_eq.mpr c4
  have c4b1 : (a0 != 4) = false := bne_eq_false_iff_eq.mpr c4
  clear c4
  obtain rfl := Option.some.inj H
  go_enter Try.func68, Try.ntmps68
  go_wp2
  go_ret
  exact ⟨by first | rfl | (simp; done) | (simp [*]; done), by repeat (first | exact Drawn0.refl _ | apply Drawn0.step)⟩
 rw [if_neg c4] at H
 have c4b0 : (a0 == 4) = false := beq_eq_false_iff_ne.mpr c4
 have c4b1 : (a0 != 4) = true := bne_iff_ne.mpr c4
 obtain rfl := Option.some.inj H
 go_enter Try.func68, Try.ntmps68
 go_wp2
 go_ret
 exact ⟨by first | rfl | (simp; done) | (simp [*]; done), by repeat (first | exact Drawn0.refl _ | apply Drawn0.step)⟩
end Go.Proofs.Ytfgfnflhdabmcaa.G
end
