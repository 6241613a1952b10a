/- What the reference's One does with its table: the ops that move rows. -/
import Derived.Test.YtngddlihppomhaaRefOps
namespace Go.Proofs.Ytngddlihppomhaa.CfaR
set_option linter.unusedVariables false
set_option linter.unusedSimpArgs false
open Go.RowKit Go.Proofs.Ytngddlihppomhaa.G Go.Proofs.YtngddlihppomhaaW.PrintWords Go.Proofs.YtngddlihppomhaaW.PrintLast Go.Proofs.YtngddlihppomhaaW.PrintMore Go.Proofs.Ytngddlihppomhaa.Cfa
set_option maxRecDepth 100000 in
theorem one_1z (w : World) (base g : Nat) (t : T) (rv kv : Value) (h : Tab w base g t rv kv) (hb : base ≤ w.heap.size) (r : Int) (hm : mayF 1 r 0 = true) (hs : 0 ≤ t.size) :
    Calls Try.prog 31 #[.pointer (some ⟨g, 0, none⟩), .agg #[.int .i64 1, .int .i64 r, .int .i64 0], .bool false] w (Post base g w (act t 1 r 0)) := by
  have hat1 := h.good.atS hs
  obtain ⟨x, hx⟩ : ∃ x, t.now.getD 0 0 = x := ⟨_, rfl⟩
  rw [hx] at hat1
  have HX := Aside0.mk hx
  have hle : decide (x ≤ t.size) = true := decide_eq_true hat1
  have HLE := Aside0.mk hle
  clear hat1 hx hs hle
  have H0 := Aside0.mk h
  have HM := Aside0.mk hm
  have HB := Aside0.mk hb
  have BX := Aside0.mk (blk_new w (.cells #[.int .i64 1, .int .i64 r, .int .i64 0] 41))
  have HA := Aside0.mk (h.below (below_alloc (Below.refl w.heap.size w) (.cells #[.int .i64 1, .int .i64 r, .int .i64 0] 41)))
  have hg := blk_lt h.blk
  clear h hb hm
  go_enter Try.func31, Try.ntmps31
  go_wp2_with fail
  refine (rmay_calls 1 r 0 _).mono ?_
  rintro e w1 ⟨rfl, hw1⟩
  rw [HM.out]
  have HG := Aside0.mk (grown_below' (grown_alloc (World.grownBy.refl w (some g)) (.cells #[.int .i64 1, .int .i64 r, .int .i64 0] 41)) hw1)
  have H := Aside0.mk (HA.out.below hw1)
  have hbx := blk_below BX.out hw1
  have o0 : w1.cell? ⟨w.heap.size, 0, none⟩ = some (.int .i64 1) := (blk_cell hbx 0).trans rfl
  have o1 : w1.cell? ⟨w.heap.size, 1, none⟩ = some (.int .i64 r) := (blk_cell hbx 1).trans rfl
  have o2 : w1.cell? ⟨w.heap.size, 2, none⟩ = some (.int .i64 0) := (blk_cell hbx 2).trans rfl
  have HBX := Aside0.mk hbx
  have HB1 := Aside0.mk (show base ≤ w1.heap.size from Nat.le_trans HB.out HG.out.size)
  clear hw1 BX HA hbx
  have f5 : w1.cell? ⟨g, 1, none⟩ = some (.int .i64 x) := by rw [← HX.out]; exact H.out.now 0 (by omega)
  have f6 := H.out.size
  go_wp2
  go_quiet (fail)
  go_wp2
  go_ret
  show Post base g w (act t 1 r 0) (.returned (.bool (decide (x ≤ t.size)))) _
  rw [HLE.out]
  exact Post.turn H.out HB.out HG.out (grown_below' (World.grownBy.refl _ _) (pw_below_drewN (Below.refl _ _) _)) HM.out rfl rfl rfl (blk_below H.out.blk (pw_below_drewN (Below.refl _ _) _))
set_option maxRecDepth 100000 in
theorem one_1 (w : World) (base g : Nat) (t : T) (rv kv : Value) (h : Tab w base g t rv kv) (hb : base ≤ w.heap.size) (r n : Int) (hm : mayF 1 r n = true) (hn : n ≠ 0) (hk : t.rows.length ≤ 1000000) (hs : 0 ≤ t.size) :
    Calls Try.prog 31 #[.pointer (some ⟨g, 0, none⟩), .agg #[.int .i64 1, .int .i64 r, .int .i64 n], .bool false] w (Post base g w (act t 1 r n)) := by
  have e : act t 1 r n = if t.now.getD 0 0 + n ≤ t.size then some { t with rows := t.rows ++ [t.now], now := t.now.set 0 (t.now.getD 0 0 + n) } else none := by
    show (if n = 0 then _ else _) = _
    rw [if_neg hn]
  have hgd : Cfa.Good { t with rows := t.rows ++ [t.now] } := by
    refine ⟨h.good.now, h.good.first, fun q hq => ?_, h.good.kept, h.good.at0, h.good.size, h.good.atS⟩
    rcases List.mem_append.1 hq with hq | hq
    · exact h.good.rows q hq
    · rw [List.mem_singleton.1 hq]; exact h.good.now
  have hat0 := h.good.at0
  have hat1 := h.good.atS hs
  have hat2 := h.good.size
  have hnn := may_n hm rfl
  have hn1 : decide (n > 0) = true := decide_eq_true (by omega)
  obtain ⟨x, hx⟩ : ∃ x, t.now.getD 0 0 = x := ⟨_, rfl⟩
  rw [hx] at hat0 hat1 e
  have HX := Aside0.mk hx
  have HE := Aside0.mk e
  have HGD := Aside0.mk hgd
  have hwr : IntKind.i64.wrap (x + n) = x + n := by rw [IntKind.wrap_i64]; omega
  have HWR := Aside0.mk hwr
  have HSUM := Aside0.mk (show 0 ≤ x + n from by omega)
  have HK := Aside0.mk hk
  have HGL := Aside0.mk (show g < w.heap.size from blk_lt h.blk)
  clear hk hs hn hat0 hat1 hat2 hnn e hgd hx hwr
  have H0 := Aside0.mk h
  have HM := Aside0.mk hm
  have HB := Aside0.mk hb
  have BX := Aside0.mk (blk_new w (.cells #[.int .i64 1, .int .i64 r, .int .i64 n] 41))
  have HA := Aside0.mk (h.below (below_alloc (Below.refl w.heap.size w) (.cells #[.int .i64 1, .int .i64 r, .int .i64 n] 41)))
  have hg := blk_lt h.blk
  clear h hb hm
  go_enter Try.func31, Try.ntmps31
  go_wp2_with fail
  refine (rmay_calls 1 r n _).mono ?_
  rintro e w1 ⟨rfl, hw1⟩
  rw [HM.out]
  have HG := Aside0.mk (grown_below' (grown_alloc (World.grownBy.refl w (some g)) (.cells #[.int .i64 1, .int .i64 r, .int .i64 n] 41)) hw1)
  have H := Aside0.mk (HA.out.below hw1)
  have hbx := blk_below BX.out hw1
  have o0 : w1.cell? ⟨w.heap.size, 0, none⟩ = some (.int .i64 1) := (blk_cell hbx 0).trans rfl
  have o1 : w1.cell? ⟨w.heap.size, 1, none⟩ = some (.int .i64 r) := (blk_cell hbx 1).trans rfl
  have o2 : w1.cell? ⟨w.heap.size, 2, none⟩ = some (.int .i64 n) := (blk_cell hbx 2).trans rfl
  have HBX := Aside0.mk hbx
  have HB1 := Aside0.mk (show base ≤ w1.heap.size from Nat.le_trans HB.out HG.out.size)
  clear hw1 BX HA hbx
  have hg1 := blk_lt H.out.blk
  have f1 := H.out.rowsC
  have f3 := H.out.free 0
  have HN := Aside0.mk H.out.nowR
  have f5 : w1.cell? ⟨g, 1, none⟩ = some (.int .i64 x) := by rw [← HX.out]; exact H.out.now 0 (by omega)
  go_wp2
  refine start_ (n := 14) (S := fun u => u.cell? ⟨g, 0, none⟩ = some rv ∧ Aside0 (u.rangeAt g 1 (nums .i64 t.now))) (ds := [10, 13]) #[false, false, false, false, false, false, false, false, false, false, false, false, false, false] (by kernel_rfl) rfl rfl ?_ (fun hHeld => ?_)
  case refine_1 => exact ⟨by go_simp, ⟨(World.rangeAt_drew _ _ _ _).2 HN.out⟩⟩
  refine pure_ (i := 0) (N := some 43) (v := ?_) (a' := ?_) #[true, false, false, false, false, false, false, false, false, false, false, false, false, false] rfl rfl (by kernel_rfl) (fun _ _ _ h => h) (Or.inl ⟨by rfl, ?_⟩) ?_ ?_
  rotate_left
  · intro u
    go_simp
    with_reducible rfl
  rotate_left
  · simp only [Act.put, List.setIfInBounds_toArray, List.set_cons_zero, List.set_cons_succ, i64_w, i32_w]
    rfl
  refine pure_ (i := 1) (N := some 44) (v := ?_) (a' := ?_) #[true, true, false, false, false, false, false, false, false, false, false, false, false, false] rfl rfl (by kernel_rfl) (fun _ _ _ h => h) (Or.inl ⟨by rfl, ?_⟩) ?_ ?_
  rotate_left
  · intro u
    go_simp
    with_reducible rfl
  rotate_left
  · simp only [Act.put, List.setIfInBounds_toArray, List.set_cons_zero, List.set_cons_succ, i64_w, i32_w]
    rfl
  refine pure_ (i := 2) (N := some 45) (v := ?_) (a' := ?_) #[true, true, true, false, false, false, false, false, false, false, false, false, false, false] rfl rfl (by kernel_rfl) (fun _ _ _ h => h) (Or.inl ⟨by rfl, ?_⟩) ?_ ?_
  rotate_left
  · intro u
    go_simp
    with_reducible rfl
  rotate_left
  · simp only [Act.put, List.setIfInBounds_toArray, List.set_cons_zero, List.set_cons_succ, i64_w, i32_w]
    rfl
  refine pure_ (i := 3) (N := some 46) (v := ?_) (a' := ?_) #[true, true, true, true, false, false, false, false, false, false, false, false, false, false] rfl rfl (by kernel_rfl) (fun _ _ _ h => h) (Or.inl ⟨by rfl, ?_⟩) ?_ ?_
  rotate_left
  · intro u
    go_simp
    with_reducible rfl
  rotate_left
  · simp only [Act.put, List.setIfInBounds_toArray, List.set_cons_zero, List.set_cons_succ, i64_w, i32_w]
    rfl
  refine take_ (i := 4) (N := some 47) (v := ?_) (a' := ?_) #[true, true, true, true, true, false, false, false, false, false, false, false, false, false] rfl rfl (by kernel_rfl) (fun _ _ _ h => h) (Or.inl ⟨by rfl, ?_⟩) hHeld ?_ ?_
  rotate_left
  · rintro u ⟨s0, s1⟩
    go_simp
    with_reducible rfl
  rotate_left
  · simp only [Act.put, List.setIfInBounds_toArray, List.set_cons_zero, List.set_cons_succ, i64_w, i32_w]
    rfl
  refine pure_ (i := 5) (N := some 48) (v := ?_) (a' := ?_) #[true, true, true, true, true, true, false, false, false, false, false, false, false, false] rfl rfl (by kernel_rfl) (fun _ _ _ h => h) (Or.inl ⟨by rfl, ?_⟩) ?_ ?_
  rotate_left
  · intro u
    go_simp
    with_reducible rfl
  rotate_left
  · simp only [Act.put, List.setIfInBounds_toArray, List.set_cons_zero, List.set_cons_succ, i64_w, i32_w]
    rfl
  refine pure_ (i := 6) (N := some 49) (v := ?_) (a' := ?_) #[true, true, true, true, true, true, true, false, false, false, false, false, false, false] rfl rfl (by kernel_rfl) (fun _ _ _ h => h) (Or.inl ⟨by rfl, ?_⟩) ?_ ?_
  rotate_left
  · intro u
    go_simp
    with_reducible rfl
  rotate_left
  · simp only [Act.put, List.setIfInBounds_toArray, List.set_cons_zero, List.set_cons_succ, i64_w, i32_w]
    rfl
  refine pure_ (i := 7) (N := some 50) (v := ?_) (a' := ?_) #[true, true, true, true, true, true, true, true, false, false, false, false, false, false] rfl rfl (by kernel_rfl) (fun _ _ _ h => h) (Or.inl ⟨by rfl, ?_⟩) ?_ ?_
  rotate_left
  · intro u
    go_simp
    with_reducible rfl
  rotate_left
  · simp only [Act.put, List.setIfInBounds_toArray, List.set_cons_zero, List.set_cons_succ, i64_w, i32_w]
    rfl
  refine take_ (i := 8) (N := some 51) (v := .agg (nums .i64 t.now).toArray) (a' := ?_) #[true, true, true, true, true, true, true, true, true, false, false, false, false, false] rfl rfl (by kernel_rfl) (fun _ _ _ h => h) (load_row_y (by rfl) (.tmp 50) rfl g 1 rfl t.now H.out.good.now (fun u hu => hu.2.out)) hHeld ?_ ?_
  rotate_left
  · simp only [Act.put, List.setIfInBounds_toArray, List.set_cons_zero, List.set_cons_succ, i64_w, i32_w]
    rfl
  refine one_ (i := 9) (N := some 52) #[true, true, true, true, true, true, true, true, true, true, false, false, false, false] rfl rfl (by kernel_rfl) (by decide) (fun K hK => ?_)
  rw [if_pos (by rfl)]
  refine wp_build_row (.tmp 51) rfl t.now H.out.good.now rfl ?_
  refine hK.out _ _ ⟨by go_simp, ⟨World.rangeAt_alloc ((World.rangeAt_drew _ _ _ _).2 HN.out) _⟩⟩ (fun hHeld => ?_)
  clear hK K
  refine norm_ (a' := ?_) ?_ ?_
  rotate_left
  · show Act.put _ (some 52) _ = _
    simp only [Act.put, List.setIfInBounds_toArray, List.set_cons_zero, List.set_cons_succ, i64_w, i32_w]
    rfl
  refine last_ (i := 10) (N := some 53) #[true, true, true, true, true, true, true, true, true, true, true, false, false, false] rfl rfl (by kernel_rfl) (by decide) (fun K hK => ?_)
  have hBw := below_drew (Below.refl w1.heap.size w1)
  refine Kd.R_append_step rowK (w0 := w1) base (by rfl) (.tmp 47) (.tmp 52) 44 53 _ 296 rfl Try.underlying44 info53 rfl (by decide) (by decide) rv t.rows t.now (nums .i64 t.now) (fun k => k ≠ g ∧ some k ≠ kv.ownBlock) (fun _ => False) rfl rfl (row_M _ _ _ _ H.out.good.now) (fun _ h => h.elim) ?aF ?aO ?aB ?aS ?aL ?_
  case aF =>
    intro k hk
    have hk2 : w1.heap.size ≤ k := hk
    exact ⟨by omega, fun e => by have := Kd.R_lt H.out.kept k e.symm; omega⟩
  case aO => exact Kd.R_below H.out.rows hBw
  case aB => exact (below_drew (Below.refl w1.heap.size w1)).mono HB1.out
  case aS => have := HB1.out; simp; omega
  case aL => have := HK.out; omega
  intro v1 w2 ho hbb hgr hat
  have h1 := H.out.below hBw
  obtain ⟨A1, k1, rfl⟩ := Kd.R_slice ho
  have HW := hBw
  have hbox : w1.drew.heap[w.heap.size]? = some (.cells #[Value.int .i64 1, .int .i64 r, .int .i64 n] 41 (0, 0)) := blk_drew HBX.out
  generalize w1.drew = W at *
  have hbox1 := blk_grown hbox hgr (fun e => by have := Kd.R_lt H0.out.rows _ e.symm; omega)
  have hc1 := blk_grown (h1.blk) hgr (fun e => (h1.rows.1 g e.symm).1 rfl)
  have hc3 : w2.cell? ⟨g, 0, none⟩ = some rv := by rw [blk_cell hc1]; rfl
  have hfz : w2.frozen? ⟨g, 0, none⟩ = false := blk_frozen hc1 0
  have HO := Aside0.mk ho
  have HGR := Aside0.mk hgr
  have HAT := Aside0.mk hat
  have HBW := Aside0.mk HW
  have HBOX := Aside0.mk hbox1
  clear ho hgr hat HW hBw hbb h1 hc1 hbox hbox1
  refine hK.out _ _ ?_
  clear hK K
  refine norm_ (a' := ?_) ?_ ?_
  rotate_left
  · show Act.put _ (some 53) _ = _
    simp only [Act.put, List.setIfInBounds_toArray, List.set_cons_zero, List.set_cons_succ, i64_w, i32_w]
    rfl
  refine pure_ (i := 11) (N := some 54) (v := ?_) (a' := ?_) #[true, true, true, true, true, true, true, true, true, true, true, true, false, false] rfl rfl (by kernel_rfl) (fun _ _ _ h => h) (Or.inl ⟨by rfl, ?_⟩) ?_ ?_
  rotate_left
  · intro u
    go_simp
    with_reducible rfl
  rotate_left
  · simp only [Act.put, List.setIfInBounds_toArray, List.set_cons_zero, List.set_cons_succ, i64_w, i32_w]
    rfl
  refine pure_ (i := 12) (N := some 55) (v := ?_) (a' := ?_) #[true, true, true, true, true, true, true, true, true, true, true, true, true, false] rfl rfl (by kernel_rfl) (fun _ _ _ h => h) (Or.inl ⟨by rfl, ?_⟩) ?_ ?_
  rotate_left
  · intro u
    go_simp
    with_reducible rfl
  rotate_left
  · simp only [Act.put, List.setIfInBounds_toArray, List.set_cons_zero, List.set_cons_succ, i64_w, i32_w]
    rfl
  refine last_ (i := 13) (N := none) #[true, true, true, true, true, true, true, true, true, true, true, true, true, true] rfl rfl (by kernel_rfl) (by decide) (fun K hK => ?_)
  rw [if_pos (by rfl)]
  go_simp
  refine hK.out _ _ ?_
  clear hK K
  refine done_ (by kernel_rfl) ?_
  have hlen : (t.rows ++ [t.now]).length = t.rows.length + 1 := by simp
  have ho := HO.out
  have hat := HAT.out
  rw [hlen] at ho hat
  have hT := H.out.rows_app HBW.out HGR.out hat ho HGD.out
  have hBel : Below base w1 (w2.setCell ⟨g, 0, none⟩ (.slice A1 (t.rows.length + 1) k1)) :=
    (((HBW.out.mono HB1.out).grown HGR.out (by have := HB1.out; have := HBW.out.size; omega) (fun k hk => Kd.R_base H.out.rows k hk)).setCell H.out.lo _)
  have hbox : (w2.setCell ⟨g, 0, none⟩ (.slice A1 (t.rows.length + 1) k1)).heap[w.heap.size]? = some (.cells #[Value.int .i64 1, .int .i64 r, .int .i64 n] 41 (0, 0)) := blk_far HBOX.out (Nat.ne_of_gt HGL.out) _
  clear ho hat hlen HO HGR HAT HBW HBOX hHeld hc3 hfz f1 f3 f5 HN o0 o1 o2
  have HBL := Aside0.mk hBel
  have HT := Aside0.mk hT
  have hle : base ≤ (w2.setCell ⟨g, 0, none⟩ (.slice A1 (t.rows.length + 1) k1)).heap.size := by have := hBel.size; have := HB1.out; omega
  have HLE := Aside0.mk hle
  have c1 : (w2.setCell ⟨g, 0, none⟩ (.slice A1 (t.rows.length + 1) k1)).cell? ⟨g, 1, none⟩ = some (.int .i64 x) := by rw [← HX.out]; exact hT.now 0 (by omega)
  have c2 : (w2.setCell ⟨g, 0, none⟩ (.slice A1 (t.rows.length + 1) k1)).cell? ⟨g, 76, none⟩ = some (.int .i64 t.size) := hT.size
  have c3 := hT.free 1
  have c4 : (w2.setCell ⟨g, 0, none⟩ (.slice A1 (t.rows.length + 1) k1)).cell? ⟨w.heap.size, 2, none⟩ = some (.int .i64 n) := by rw [blk_cell hbox]; rfl
  clear hBel hT hle hbox
  generalize (w2.setCell ⟨g, 0, none⟩ (.slice A1 (t.rows.length + 1) k1)) = w4 at *
  generalize Value.slice A1 (t.rows.length + 1) k1 = v1 at *
  have hwr := HWR.out
  have hw64 : wrap64 (x + n) = x + n := (i64_w _).symm.trans hwr
  go_wp2
  refine still_tail 12 (by kernel_rfl) (by kernel_rfl) ?_
  simp only [List.take_succ_cons, List.take_zero, List.drop_succ_cons, List.drop_zero]
  repeat still_step
  refine wpStill_nil ?_
  go_wp2
  go_quiet (fail)
  go_wp2
  go_ret
  show Post base g w (act t 1 r n) (.returned (.bool (decide (x + n ≤ t.size)))) _
  have h1 := set_now HT.out.blk HT.out.good 0 (by omega) (x + n)
  have he := HE.out
  have hgr : w4.grownBy ((w4.setCell ⟨g, 1, none⟩ (.int .i64 (x + n))).drew.drewN nq) (some g) := grown_below' (grown_drew (grown_set _ _ _ _)) (pw_below_drewN (Below.refl _ _) _)
  have hb2 : Below base w ((w4.setCell ⟨g, 1, none⟩ (.int .i64 (x + n))).drew.drewN nq) := ((below_grown HG.out HB.out H.out.lo).trans HBL.out).trans (below_grown hgr HLE.out HT.out.lo)
  by_cases c : x + n ≤ t.size
  · rw [if_pos c] at he
    rw [he, decide_eq_true c]
    refine ⟨rfl, hb2, fun t' e => ?_⟩
    have e' := e
    cases e
    exact ⟨_, _, HT.out.turn hgr (good_act H.out.good HM.out he) h1 rfl rfl⟩
  · rw [if_neg c] at he
    rw [he, decide_eq_false c]
    exact ⟨rfl, hb2, fun t' e => by cases e⟩
set_option maxRecDepth 100000 in
theorem one_9 (w : World) (base g : Nat) (t : T) (rv kv : Value) (h : Tab w base g t rv kv) (hb : base ≤ w.heap.size) (r n : Int) (hm : mayF 9 r n = true) (hk : t.kept.length ≤ 1000000) :
    Calls Try.prog 31 #[.pointer (some ⟨g, 0, none⟩), .agg #[.int .i64 9, .int .i64 r, .int .i64 n], .bool false] w (Post base g w (act t 9 r n)) := by
  have e : act t 9 r n = if t.kept.length + 1 ≤ 64 then some { t with kept := t.kept ++ [t.now] } else none := rfl
  have HE := Aside0.mk e
  have hgd : Cfa.Good { t with kept := t.kept ++ [t.now] } := by
    refine ⟨h.good.now, h.good.first, h.good.rows, fun q hq => ?_, h.good.at0, h.good.size, h.good.atS⟩
    rcases List.mem_append.1 hq with hq | hq
    · exact h.good.kept q hq
    · rw [List.mem_singleton.1 hq]; exact h.good.now
  have HGD := Aside0.mk hgd
  have HK := Aside0.mk hk
  clear e hgd hk
  have H0 := Aside0.mk h
  have HM := Aside0.mk hm
  have HB := Aside0.mk hb
  have BX := Aside0.mk (blk_new w (.cells #[.int .i64 9, .int .i64 r, .int .i64 n] 41))
  have HA := Aside0.mk (h.below (below_alloc (Below.refl w.heap.size w) (.cells #[.int .i64 9, .int .i64 r, .int .i64 n] 41)))
  have hg := blk_lt h.blk
  clear h hb hm
  go_enter Try.func31, Try.ntmps31
  go_wp2_with fail
  refine (rmay_calls 9 r n _).mono ?_
  rintro e w1 ⟨rfl, hw1⟩
  rw [HM.out]
  have HG := Aside0.mk (grown_below' (grown_alloc (World.grownBy.refl w (some g)) (.cells #[.int .i64 9, .int .i64 r, .int .i64 n] 41)) hw1)
  have H := Aside0.mk (HA.out.below hw1)
  have hbx := blk_below BX.out hw1
  have o0 : w1.cell? ⟨w.heap.size, 0, none⟩ = some (.int .i64 9) := (blk_cell hbx 0).trans rfl
  have o1 : w1.cell? ⟨w.heap.size, 1, none⟩ = some (.int .i64 r) := (blk_cell hbx 1).trans rfl
  have o2 : w1.cell? ⟨w.heap.size, 2, none⟩ = some (.int .i64 n) := (blk_cell hbx 2).trans rfl
  have HBX := Aside0.mk hbx
  have HB1 := Aside0.mk (show base ≤ w1.heap.size from Nat.le_trans HB.out HG.out.size)
  clear hw1 BX HA hbx
  have hg1 := blk_lt H.out.blk
  have f1 := H.out.keptC
  have f3 := H.out.free 75
  have HN := Aside0.mk H.out.nowR
  go_wp2
  refine start_ (n := 14) (S := fun u => u.cell? ⟨g, 75, none⟩ = some kv ∧ Aside0 (u.rangeAt g 1 (nums .i64 t.now))) (ds := [10, 13]) #[false, false, false, false, false, false, false, false, false, false, false, false, false, false] (by kernel_rfl) rfl rfl ?_ (fun hHeld => ?_)
  case refine_1 => exact ⟨by go_simp, ⟨(World.rangeAt_drew _ _ _ _).2 HN.out⟩⟩
  refine pure_ (i := 0) (N := some 172) (v := ?_) (a' := ?_) #[true, false, false, false, false, false, false, false, false, false, false, false, false, false] rfl rfl (by kernel_rfl) (fun _ _ _ h => h) (Or.inl ⟨by rfl, ?_⟩) ?_ ?_
  rotate_left
  · intro u
    go_simp
    with_reducible rfl
  rotate_left
  · simp only [Act.put, List.setIfInBounds_toArray, List.set_cons_zero, List.set_cons_succ, i64_w, i32_w]
    rfl
  refine pure_ (i := 1) (N := some 173) (v := ?_) (a' := ?_) #[true, true, false, false, false, false, false, false, false, false, false, false, false, false] rfl rfl (by kernel_rfl) (fun _ _ _ h => h) (Or.inl ⟨by rfl, ?_⟩) ?_ ?_
  rotate_left
  · intro u
    go_simp
    with_reducible rfl
  rotate_left
  · simp only [Act.put, List.setIfInBounds_toArray, List.set_cons_zero, List.set_cons_succ, i64_w, i32_w]
    rfl
  refine pure_ (i := 2) (N := some 174) (v := ?_) (a' := ?_) #[true, true, true, false, false, false, false, false, false, false, false, false, false, false] rfl rfl (by kernel_rfl) (fun _ _ _ h => h) (Or.inl ⟨by rfl, ?_⟩) ?_ ?_
  rotate_left
  · intro u
    go_simp
    with_reducible rfl
  rotate_left
  · simp only [Act.put, List.setIfInBounds_toArray, List.set_cons_zero, List.set_cons_succ, i64_w, i32_w]
    rfl
  refine pure_ (i := 3) (N := some 175) (v := ?_) (a' := ?_) #[true, true, true, true, false, false, false, false, false, false, false, false, false, false] rfl rfl (by kernel_rfl) (fun _ _ _ h => h) (Or.inl ⟨by rfl, ?_⟩) ?_ ?_
  rotate_left
  · intro u
    go_simp
    with_reducible rfl
  rotate_left
  · simp only [Act.put, List.setIfInBounds_toArray, List.set_cons_zero, List.set_cons_succ, i64_w, i32_w]
    rfl
  refine take_ (i := 4) (N := some 176) (v := ?_) (a' := ?_) #[true, true, true, true, true, false, false, false, false, false, false, false, false, false] rfl rfl (by kernel_rfl) (fun _ _ _ h => h) (Or.inl ⟨by rfl, ?_⟩) hHeld ?_ ?_
  rotate_left
  · rintro u ⟨s0, s1⟩
    go_simp
    with_reducible rfl
  rotate_left
  · simp only [Act.put, List.setIfInBounds_toArray, List.set_cons_zero, List.set_cons_succ, i64_w, i32_w]
    rfl
  refine pure_ (i := 5) (N := some 177) (v := ?_) (a' := ?_) #[true, true, true, true, true, true, false, false, false, false, false, false, false, false] rfl rfl (by kernel_rfl) (fun _ _ _ h => h) (Or.inl ⟨by rfl, ?_⟩) ?_ ?_
  rotate_left
  · intro u
    go_simp
    with_reducible rfl
  rotate_left
  · simp only [Act.put, List.setIfInBounds_toArray, List.set_cons_zero, List.set_cons_succ, i64_w, i32_w]
    rfl
  refine pure_ (i := 6) (N := some 178) (v := ?_) (a' := ?_) #[true, true, true, true, true, true, true, false, false, false, false, false, false, false] rfl rfl (by kernel_rfl) (fun _ _ _ h => h) (Or.inl ⟨by rfl, ?_⟩) ?_ ?_
  rotate_left
  · intro u
    go_simp
    with_reducible rfl
  rotate_left
  · simp only [Act.put, List.setIfInBounds_toArray, List.set_cons_zero, List.set_cons_succ, i64_w, i32_w]
    rfl
  refine pure_ (i := 7) (N := some 179) (v := ?_) (a' := ?_) #[true, true, true, true, true, true, true, true, false, false, false, false, false, false] rfl rfl (by kernel_rfl) (fun _ _ _ h => h) (Or.inl ⟨by rfl, ?_⟩) ?_ ?_
  rotate_left
  · intro u
    go_simp
    with_reducible rfl
  rotate_left
  · simp only [Act.put, List.setIfInBounds_toArray, List.set_cons_zero, List.set_cons_succ, i64_w, i32_w]
    rfl
  refine take_ (i := 8) (N := some 180) (v := .agg (nums .i64 t.now).toArray) (a' := ?_) #[true, true, true, true, true, true, true, true, true, false, false, false, false, false] rfl rfl (by kernel_rfl) (fun _ _ _ h => h) (load_row_y (by rfl) (.tmp 179) rfl g 1 rfl t.now H.out.good.now (fun u hu => hu.2.out)) hHeld ?_ ?_
  rotate_left
  · simp only [Act.put, List.setIfInBounds_toArray, List.set_cons_zero, List.set_cons_succ, i64_w, i32_w]
    rfl
  refine one_ (i := 9) (N := some 181) #[true, true, true, true, true, true, true, true, true, true, false, false, false, false] rfl rfl (by kernel_rfl) (by decide) (fun K hK => ?_)
  rw [if_pos (by rfl)]
  refine wp_build_row (.tmp 180) rfl t.now H.out.good.now rfl ?_
  refine hK.out _ _ ⟨by go_simp, ⟨World.rangeAt_alloc ((World.rangeAt_drew _ _ _ _).2 HN.out) _⟩⟩ (fun hHeld => ?_)
  clear hK K
  refine norm_ (a' := ?_) ?_ ?_
  rotate_left
  · show Act.put _ (some 181) _ = _
    simp only [Act.put, List.setIfInBounds_toArray, List.set_cons_zero, List.set_cons_succ, i64_w, i32_w]
    rfl
  refine last_ (i := 10) (N := some 182) #[true, true, true, true, true, true, true, true, true, true, true, false, false, false] rfl rfl (by kernel_rfl) (by decide) (fun K hK => ?_)
  have hBw := below_drew (Below.refl w1.heap.size w1)
  refine Kd.R_append_step rowK (w0 := w1) base (by rfl) (.tmp 176) (.tmp 181) 44 53 _ 296 rfl Try.underlying44 info53 rfl (by decide) (by decide) kv t.kept t.now (nums .i64 t.now) (fun k => k ≠ g ∧ some k ≠ rv.ownBlock) (fun _ => False) rfl rfl (row_M _ _ _ _ H.out.good.now) (fun _ h => h.elim) ?aF ?aO ?aB ?aS ?aL ?_
  case aF =>
    intro k hk
    have hk2 : w1.heap.size ≤ k := hk
    exact ⟨by omega, fun e => by have := Kd.R_lt H.out.rows k e.symm; omega⟩
  case aO => exact Kd.R_below H.out.kept hBw
  case aB => exact (below_drew (Below.refl w1.heap.size w1)).mono HB1.out
  case aS => have := HB1.out; simp; omega
  case aL => have := HK.out; omega
  intro v1 w2 ho hbb hgr hat
  have h1 := H.out.below hBw
  obtain ⟨A1, k1, rfl⟩ := Kd.R_slice ho
  have HW := hBw
  generalize w1.drew = W at *
  have hc1 := blk_grown (h1.blk) hgr (fun e => (h1.kept.1 g e.symm).1 rfl)
  have hc3 : w2.cell? ⟨g, 75, none⟩ = some kv := by rw [blk_cell hc1, List.getElem?_toArray]; exact cells_tail H.out.good 0
  have hfz : w2.frozen? ⟨g, 75, none⟩ = false := blk_frozen hc1 75
  have HO := Aside0.mk ho
  have HGR := Aside0.mk hgr
  have HAT := Aside0.mk hat
  have HBW := Aside0.mk HW
  clear ho hgr hat HW hBw hbb h1 hc1
  refine hK.out _ _ ?_
  clear hK K
  refine norm_ (a' := ?_) ?_ ?_
  rotate_left
  · show Act.put _ (some 182) _ = _
    simp only [Act.put, List.setIfInBounds_toArray, List.set_cons_zero, List.set_cons_succ, i64_w, i32_w]
    rfl
  refine pure_ (i := 11) (N := some 183) (v := ?_) (a' := ?_) #[true, true, true, true, true, true, true, true, true, true, true, true, false, false] rfl rfl (by kernel_rfl) (fun _ _ _ h => h) (Or.inl ⟨by rfl, ?_⟩) ?_ ?_
  rotate_left
  · intro u
    go_simp
    with_reducible rfl
  rotate_left
  · simp only [Act.put, List.setIfInBounds_toArray, List.set_cons_zero, List.set_cons_succ, i64_w, i32_w]
    rfl
  refine pure_ (i := 12) (N := some 184) (v := ?_) (a' := ?_) #[true, true, true, true, true, true, true, true, true, true, true, true, true, false] rfl rfl (by kernel_rfl) (fun _ _ _ h => h) (Or.inl ⟨by rfl, ?_⟩) ?_ ?_
  rotate_left
  · intro u
    go_simp
    with_reducible rfl
  rotate_left
  · simp only [Act.put, List.setIfInBounds_toArray, List.set_cons_zero, List.set_cons_succ, i64_w, i32_w]
    rfl
  refine last_ (i := 13) (N := none) #[true, true, true, true, true, true, true, true, true, true, true, true, true, true] rfl rfl (by kernel_rfl) (by decide) (fun K hK => ?_)
  rw [if_pos (by rfl)]
  go_simp
  refine hK.out _ _ ?_
  clear hK K
  refine done_ (by kernel_rfl) ?_
  go_wp2
  go_ret
  have hlen : (t.kept ++ [t.now]).length = t.kept.length + 1 := by simp
  have ho := HO.out
  have hat := HAT.out
  rw [hlen] at ho hat
  have hT := H.out.kept_app HBW.out HGR.out hat ho HGD.out
  have hBel : Below base w1 (w2.setCell ⟨g, 75, none⟩ (.slice A1 (t.kept.length + 1) k1)) :=
    (((HBW.out.mono HB1.out).grown HGR.out (by have := HB1.out; have := HBW.out.size; omega) (fun k hk => Kd.R_base H.out.kept k hk)).setCell H.out.lo _)
  have he := HE.out
  by_cases c : t.kept.length + 1 ≤ 64
  · rw [if_pos c] at he
    rw [he]
    exact ⟨by rw [decide_eq_true (by omega)]; rfl, (below_grown HG.out HB.out H.out.lo).trans hBel, fun t' e => by cases e; exact ⟨_, _, hT⟩⟩
  · rw [if_neg c] at he
    rw [he]
    exact ⟨by rw [decide_eq_false (by omega)]; rfl, (below_grown HG.out HB.out H.out.lo).trans hBel, fun t' e => by cases e⟩
end Go.Proofs.Ytngddlihppomhaa.CfaR
