/- What the methods of a table of frame rules do with it: those that write a row. -/
import Derived.Test.YtngddlihppomhaaCfaOps
namespace Go.Proofs.Ytngddlihppomhaa.Cfa
set_option linter.unusedVariables false
set_option linter.unusedSimpArgs false
open Go.RowKit Go.Proofs.Ytngddlihppomhaa.G Go.Proofs.YtngddlihppomhaaW.PrintWords Go.Proofs.YtngddlihppomhaaW.PrintLast Go.Proofs.YtngddlihppomhaaW.PrintMore
set_option maxRecDepth 100000 in
theorem remember_calls (w : World) (base g : Nat) (t : T) (rv kv : Value) (h : Tab w base g t rv kv) (hb : base ≤ w.heap.size) (r n : Int) (hm : mayF 9 r n = true) (hk : t.kept.length ≤ 1000000) :
    Calls Try.prog 63 #[.pointer (some ⟨g, 0, none⟩), .agg #[.int .i64 9, .int .i64 r, .int .i64 n]] w (Post base g w (act t 9 r n)) := by
  have e : act t 9 r n = if t.kept.length + 1 ≤ 64 then some { t with kept := t.kept ++ [t.now] } else none := rfl
  have HE := Aside0.mk e
  have hgd : Good { t with kept := t.kept ++ [t.now] } := by
    refine ⟨h.good.now, h.good.first, h.good.rows, fun q hq => ?_, h.good.at0, h.good.size, h.good.atS⟩
    rcases List.mem_append.1 hq with hq | hq
    · exact h.good.kept q hq
    · rw [List.mem_singleton.1 hq]; exact h.good.now
  have HGD := Aside0.mk hgd
  clear e hgd
  have f1 := h.keptC
  have f3 := h.free 75
  have hg := blk_lt h.blk
  have HN := Aside0.mk h.nowR
  have H := Aside0.mk h
  have HB := Aside0.mk hb
  have HK := Aside0.mk hk
  clear h hb hm hk
  go_enter Try.func63, Try.ntmps63
  go_wp2
  refine start_ (n := 14) (S := fun u => u.cell? ⟨g, 75, none⟩ = some kv ∧ Aside0 (u.rangeAt g 1 (nums .i64 t.now))) (ds := [10, 13]) #[false, false, false, false, false, false, false, false, false, false, false, false, false, false] (by kernel_rfl) rfl rfl ?_ (fun hHeld => ?_)
  case refine_1 => exact ⟨by go_simp, ⟨(World.rangeAt_drew _ _ _ _).2 (World.rangeAt_alloc HN.out _)⟩⟩
  refine pure_ (i := 0) (N := some 5) (v := ?_) (a' := ?_) #[true, false, false, false, false, false, false, false, false, false, false, false, false, false] rfl rfl (by kernel_rfl) (fun _ _ _ h => h) (Or.inl ⟨by rfl, ?_⟩) ?_ ?_
  rotate_left
  · intro u
    go_simp
    with_reducible rfl
  rotate_left
  · simp only [Act.put, List.setIfInBounds_toArray, List.set_cons_zero, List.set_cons_succ, i64_w, i32_w]
    rfl
  refine pure_ (i := 1) (N := some 6) (v := ?_) (a' := ?_) #[true, true, false, false, false, false, false, false, false, false, false, false, false, false] rfl rfl (by kernel_rfl) (fun _ _ _ h => h) (Or.inl ⟨by rfl, ?_⟩) ?_ ?_
  rotate_left
  · intro u
    go_simp
    with_reducible rfl
  rotate_left
  · simp only [Act.put, List.setIfInBounds_toArray, List.set_cons_zero, List.set_cons_succ, i64_w, i32_w]
    rfl
  refine pure_ (i := 2) (N := some 7) (v := ?_) (a' := ?_) #[true, true, true, false, false, false, false, false, false, false, false, false, false, false] rfl rfl (by kernel_rfl) (fun _ _ _ h => h) (Or.inl ⟨by rfl, ?_⟩) ?_ ?_
  rotate_left
  · intro u
    go_simp
    with_reducible rfl
  rotate_left
  · simp only [Act.put, List.setIfInBounds_toArray, List.set_cons_zero, List.set_cons_succ, i64_w, i32_w]
    rfl
  refine pure_ (i := 3) (N := some 8) (v := ?_) (a' := ?_) #[true, true, true, true, false, false, false, false, false, false, false, false, false, false] rfl rfl (by kernel_rfl) (fun _ _ _ h => h) (Or.inl ⟨by rfl, ?_⟩) ?_ ?_
  rotate_left
  · intro u
    go_simp
    with_reducible rfl
  rotate_left
  · simp only [Act.put, List.setIfInBounds_toArray, List.set_cons_zero, List.set_cons_succ, i64_w, i32_w]
    rfl
  refine take_ (i := 4) (N := some 9) (v := ?_) (a' := ?_) #[true, true, true, true, true, false, false, false, false, false, false, false, false, false] rfl rfl (by kernel_rfl) (fun _ _ _ h => h) (Or.inl ⟨by rfl, ?_⟩) hHeld ?_ ?_
  rotate_left
  · rintro u ⟨s0, s1⟩
    go_simp
    with_reducible rfl
  rotate_left
  · simp only [Act.put, List.setIfInBounds_toArray, List.set_cons_zero, List.set_cons_succ, i64_w, i32_w]
    rfl
  refine pure_ (i := 5) (N := some 10) (v := ?_) (a' := ?_) #[true, true, true, true, true, true, false, false, false, false, false, false, false, false] rfl rfl (by kernel_rfl) (fun _ _ _ h => h) (Or.inl ⟨by rfl, ?_⟩) ?_ ?_
  rotate_left
  · intro u
    go_simp
    with_reducible rfl
  rotate_left
  · simp only [Act.put, List.setIfInBounds_toArray, List.set_cons_zero, List.set_cons_succ, i64_w, i32_w]
    rfl
  refine pure_ (i := 6) (N := some 11) (v := ?_) (a' := ?_) #[true, true, true, true, true, true, true, false, false, false, false, false, false, false] rfl rfl (by kernel_rfl) (fun _ _ _ h => h) (Or.inl ⟨by rfl, ?_⟩) ?_ ?_
  rotate_left
  · intro u
    go_simp
    with_reducible rfl
  rotate_left
  · simp only [Act.put, List.setIfInBounds_toArray, List.set_cons_zero, List.set_cons_succ, i64_w, i32_w]
    rfl
  refine pure_ (i := 7) (N := some 12) (v := ?_) (a' := ?_) #[true, true, true, true, true, true, true, true, false, false, false, false, false, false] rfl rfl (by kernel_rfl) (fun _ _ _ h => h) (Or.inl ⟨by rfl, ?_⟩) ?_ ?_
  rotate_left
  · intro u
    go_simp
    with_reducible rfl
  rotate_left
  · simp only [Act.put, List.setIfInBounds_toArray, List.set_cons_zero, List.set_cons_succ, i64_w, i32_w]
    rfl
  refine take_ (i := 8) (N := some 13) (v := .agg (nums .i64 t.now).toArray) (a' := ?_) #[true, true, true, true, true, true, true, true, true, false, false, false, false, false] rfl rfl (by kernel_rfl) (fun _ _ _ h => h) (load_row_y (by rfl) (.tmp 12) rfl g 1 rfl t.now H.out.good.now (fun u hu => hu.2.out)) hHeld ?_ ?_
  rotate_left
  · simp only [Act.put, List.setIfInBounds_toArray, List.set_cons_zero, List.set_cons_succ, i64_w, i32_w]
    rfl
  refine one_ (i := 9) (N := some 14) #[true, true, true, true, true, true, true, true, true, true, false, false, false, false] rfl rfl (by kernel_rfl) (by decide) (fun K hK => ?_)
  rw [if_pos (by rfl)]
  refine wp_build_row (.tmp 13) rfl t.now H.out.good.now rfl ?_
  refine hK.out _ _ ⟨by go_simp, ⟨World.rangeAt_alloc ((World.rangeAt_drew _ _ _ _).2 (World.rangeAt_alloc HN.out _)) _⟩⟩ (fun hHeld => ?_)
  clear hK K
  refine norm_ (a' := ?_) ?_ ?_
  rotate_left
  · show Act.put _ (some 14) _ = _
    simp only [Act.put, List.setIfInBounds_toArray, List.set_cons_zero, List.set_cons_succ, i64_w, i32_w]
    rfl
  refine last_ (i := 10) (N := some 15) #[true, true, true, true, true, true, true, true, true, true, true, false, false, false] rfl rfl (by kernel_rfl) (by decide) (fun K hK => ?_)
  have hBw := below_drew (below_alloc (Below.refl w.heap.size w) (.cells #[.int .i64 9, .int .i64 r, .int .i64 n] 40))
  refine Kd.R_append_step rowK (w0 := w) base (by rfl) (.tmp 9) (.tmp 14) 23 35 _ 296 rfl Try.underlying23 info35 rfl (by decide) (by decide) kv t.kept t.now (nums .i64 t.now) (fun k => k ≠ g ∧ some k ≠ rv.ownBlock) (fun _ => False) rfl rfl (row_M _ _ _ _ H.out.good.now) (fun _ h => h.elim) ?aF ?aO ?aB ?aS ?aL ?_
  case aF =>
    intro k hk
    have hk2 : w.heap.size + 1 ≤ k := by simpa using hk
    exact ⟨by omega, fun e => by have := Kd.R_lt H.out.rows k e.symm; omega⟩
  case aO => exact Kd.R_below H.out.kept hBw
  case aB => exact (below_drew (below_alloc (Below.refl w.heap.size w) _)).mono HB.out
  case aS => have := HB.out; simp; omega
  case aL => have := HK.out; omega
  intro v1 w1 ho hbb hgr hat
  have h1 := H.out.below hBw
  obtain ⟨A1, k1, rfl⟩ := Kd.R_slice ho
  have HW := hBw
  generalize (w.alloc (Obj.cells #[Value.int .i64 9, .int .i64 r, .int .i64 n] 40)).drew = W at *
  have hc1 := blk_grown (h1.blk) hgr (fun e => (h1.kept.1 g e.symm).1 rfl)
  have hc3 : w1.cell? ⟨g, 75, none⟩ = some kv := by rw [blk_cell hc1, List.getElem?_toArray]; exact cells_tail H.out.good 0
  have hfz : w1.frozen? ⟨g, 75, none⟩ = false := blk_frozen hc1 75
  have HO := Aside0.mk ho
  have HGR := Aside0.mk hgr
  have HAT := Aside0.mk hat
  have HBW := Aside0.mk HW
  clear ho hgr hat HW hBw hbb h1 hc1
  refine hK.out _ _ ?_
  clear hK K
  refine norm_ (a' := ?_) ?_ ?_
  rotate_left
  · show Act.put _ (some 15) _ = _
    simp only [Act.put, List.setIfInBounds_toArray, List.set_cons_zero, List.set_cons_succ, i64_w, i32_w]
    rfl
  refine pure_ (i := 11) (N := some 16) (v := ?_) (a' := ?_) #[true, true, true, true, true, true, true, true, true, true, true, true, false, false] rfl rfl (by kernel_rfl) (fun _ _ _ h => h) (Or.inl ⟨by rfl, ?_⟩) ?_ ?_
  rotate_left
  · intro u
    go_simp
    with_reducible rfl
  rotate_left
  · simp only [Act.put, List.setIfInBounds_toArray, List.set_cons_zero, List.set_cons_succ, i64_w, i32_w]
    rfl
  refine pure_ (i := 12) (N := some 17) (v := ?_) (a' := ?_) #[true, true, true, true, true, true, true, true, true, true, true, true, true, false] rfl rfl (by kernel_rfl) (fun _ _ _ h => h) (Or.inl ⟨by rfl, ?_⟩) ?_ ?_
  rotate_left
  · intro u
    go_simp
    with_reducible rfl
  rotate_left
  · simp only [Act.put, List.setIfInBounds_toArray, List.set_cons_zero, List.set_cons_succ, i64_w, i32_w]
    rfl
  refine last_ (i := 13) (N := none) #[true, true, true, true, true, true, true, true, true, true, true, true, true, true] rfl rfl (by kernel_rfl) (by decide) (fun K hK => ?_)
  rw [if_pos (by rfl)]
  go_simp
  refine hK.out _ _ ?_
  clear hK K
  refine done_ (by kernel_rfl) ?_
  go_wp2
  go_ret
  have hlen : (t.kept ++ [t.now]).length = t.kept.length + 1 := by simp
  have ho := HO.out
  have hat := HAT.out
  rw [hlen] at ho hat
  have hT := H.out.kept_app HBW.out HGR.out hat ho HGD.out
  have hBel : Below base w (w1.setCell ⟨g, 75, none⟩ (.slice A1 (t.kept.length + 1) k1)) :=
    (((HBW.out.mono HB.out).grown HGR.out (by have := HB.out; have := HBW.out.size; omega) (fun k hk => Kd.R_base H.out.kept k hk)).setCell H.out.lo _)
  have he := HE.out
  by_cases c : t.kept.length + 1 ≤ 64
  · rw [if_pos c] at he
    rw [he]
    exact ⟨by rw [decide_eq_true (by omega)]; rfl, hBel, fun t' e => by cases e; exact ⟨_, _, hT⟩⟩
  · rw [if_neg c] at he
    rw [he]
    exact ⟨by rw [decide_eq_false (by omega)]; rfl, hBel, fun t' e => by cases e⟩
set_option maxRecDepth 100000 in
theorem advance_calls (w : World) (base g : Nat) (t : T) (rv kv : Value) (h : Tab w base g t rv kv) (hb : base ≤ w.heap.size) (r n : Int) (hm : mayF 1 r n = true) (hk : t.rows.length ≤ 1000000) (hs : 0 ≤ t.size) :
    Calls Try.prog 55 #[.pointer (some ⟨g, 0, none⟩), .agg #[.int .i64 1, .int .i64 r, .int .i64 n]] w (Post base g w (act t 1 r n)) := by
  by_cases hn : n = 0
  · subst hn
    go_enter Try.func55, Try.ntmps55
    go_wp2
    go_ret
    exact Post.turn h hb (grown_alloc (World.grownBy.refl _ _) _) hm rfl rfl rfl (blk_alloc h.blk _)
  have e : act t 1 r n = if t.now.getD 0 0 + n ≤ t.size then some { t with rows := t.rows ++ [t.now], now := t.now.set 0 (t.now.getD 0 0 + n) } else none := by
    show (if n = 0 then _ else _) = _
    rw [if_neg hn]
  obtain ⟨hn1, hn2⟩ := may_ne hn
  have hgd : Good { t with rows := t.rows ++ [t.now] } := by
    refine ⟨h.good.now, h.good.first, fun q hq => ?_, h.good.kept, h.good.at0, h.good.size, h.good.atS⟩
    rcases List.mem_append.1 hq with hq | hq
    · exact h.good.rows q hq
    · rw [List.mem_singleton.1 hq]; exact h.good.now
  have hat0 := h.good.at0
  have hat1 := h.good.atS hs
  have hat2 := h.good.size
  have hnn := may_n hm rfl
  have f1 := h.rowsC
  have f3 := h.free 0
  have hg := blk_lt h.blk
  have HN := Aside0.mk h.nowR
  have f5 : w.cell? ⟨g, 1, none⟩ = some (.int .i64 (t.now.getD 0 0)) := h.now 0 (by omega)
  obtain ⟨x, hx⟩ : ∃ x, t.now.getD 0 0 = x := ⟨_, rfl⟩
  rw [hx] at hat0 hat1 e f5
  have HX := Aside0.mk hx
  have HE := Aside0.mk e
  have HGD := Aside0.mk hgd
  have hwr : IntKind.i64.wrap (x + n) = x + n := by rw [IntKind.wrap_i64]; omega
  have HWR := Aside0.mk hwr
  have HSUM := Aside0.mk (show 0 ≤ x + n from by omega)
  have H := Aside0.mk h
  have HB := Aside0.mk hb
  have HK := Aside0.mk hk
  have HM := Aside0.mk hm
  clear h hb hm hk hs hn hat0 hat1 hat2 hnn e hgd hx hwr
  go_enter Try.func55, Try.ntmps55
  go_wp2
  refine start_ (n := 14) (S := fun u => u.cell? ⟨g, 0, none⟩ = some rv ∧ Aside0 (u.rangeAt g 1 (nums .i64 t.now))) (ds := [10, 13]) #[false, false, false, false, false, false, false, false, false, false, false, false, false, false] (by kernel_rfl) rfl rfl ?_ (fun hHeld => ?_)
  case refine_1 => exact ⟨by go_simp, ⟨(World.rangeAt_drew _ _ _ _).2 (World.rangeAt_alloc HN.out _)⟩⟩
  refine pure_ (i := 0) (N := some 8) (v := ?_) (a' := ?_) #[true, false, false, false, false, false, false, false, false, false, false, false, false, false] rfl rfl (by kernel_rfl) (fun _ _ _ h => h) (Or.inl ⟨by rfl, ?_⟩) ?_ ?_
  rotate_left
  · intro u
    go_simp
    with_reducible rfl
  rotate_left
  · simp only [Act.put, List.setIfInBounds_toArray, List.set_cons_zero, List.set_cons_succ, i64_w, i32_w]
    rfl
  refine pure_ (i := 1) (N := some 9) (v := ?_) (a' := ?_) #[true, true, false, false, false, false, false, false, false, false, false, false, false, false] rfl rfl (by kernel_rfl) (fun _ _ _ h => h) (Or.inl ⟨by rfl, ?_⟩) ?_ ?_
  rotate_left
  · intro u
    go_simp
    with_reducible rfl
  rotate_left
  · simp only [Act.put, List.setIfInBounds_toArray, List.set_cons_zero, List.set_cons_succ, i64_w, i32_w]
    rfl
  refine pure_ (i := 2) (N := some 10) (v := ?_) (a' := ?_) #[true, true, true, false, false, false, false, false, false, false, false, false, false, false] rfl rfl (by kernel_rfl) (fun _ _ _ h => h) (Or.inl ⟨by rfl, ?_⟩) ?_ ?_
  rotate_left
  · intro u
    go_simp
    with_reducible rfl
  rotate_left
  · simp only [Act.put, List.setIfInBounds_toArray, List.set_cons_zero, List.set_cons_succ, i64_w, i32_w]
    rfl
  refine pure_ (i := 3) (N := some 11) (v := ?_) (a' := ?_) #[true, true, true, true, false, false, false, false, false, false, false, false, false, false] rfl rfl (by kernel_rfl) (fun _ _ _ h => h) (Or.inl ⟨by rfl, ?_⟩) ?_ ?_
  rotate_left
  · intro u
    go_simp
    with_reducible rfl
  rotate_left
  · simp only [Act.put, List.setIfInBounds_toArray, List.set_cons_zero, List.set_cons_succ, i64_w, i32_w]
    rfl
  refine take_ (i := 4) (N := some 12) (v := ?_) (a' := ?_) #[true, true, true, true, true, false, false, false, false, false, false, false, false, false] rfl rfl (by kernel_rfl) (fun _ _ _ h => h) (Or.inl ⟨by rfl, ?_⟩) hHeld ?_ ?_
  rotate_left
  · rintro u ⟨s0, s1⟩
    go_simp
    with_reducible rfl
  rotate_left
  · simp only [Act.put, List.setIfInBounds_toArray, List.set_cons_zero, List.set_cons_succ, i64_w, i32_w]
    rfl
  refine pure_ (i := 5) (N := some 13) (v := ?_) (a' := ?_) #[true, true, true, true, true, true, false, false, false, false, false, false, false, false] rfl rfl (by kernel_rfl) (fun _ _ _ h => h) (Or.inl ⟨by rfl, ?_⟩) ?_ ?_
  rotate_left
  · intro u
    go_simp
    with_reducible rfl
  rotate_left
  · simp only [Act.put, List.setIfInBounds_toArray, List.set_cons_zero, List.set_cons_succ, i64_w, i32_w]
    rfl
  refine pure_ (i := 6) (N := some 14) (v := ?_) (a' := ?_) #[true, true, true, true, true, true, true, false, false, false, false, false, false, false] rfl rfl (by kernel_rfl) (fun _ _ _ h => h) (Or.inl ⟨by rfl, ?_⟩) ?_ ?_
  rotate_left
  · intro u
    go_simp
    with_reducible rfl
  rotate_left
  · simp only [Act.put, List.setIfInBounds_toArray, List.set_cons_zero, List.set_cons_succ, i64_w, i32_w]
    rfl
  refine pure_ (i := 7) (N := some 15) (v := ?_) (a' := ?_) #[true, true, true, true, true, true, true, true, false, false, false, false, false, false] rfl rfl (by kernel_rfl) (fun _ _ _ h => h) (Or.inl ⟨by rfl, ?_⟩) ?_ ?_
  rotate_left
  · intro u
    go_simp
    with_reducible rfl
  rotate_left
  · simp only [Act.put, List.setIfInBounds_toArray, List.set_cons_zero, List.set_cons_succ, i64_w, i32_w]
    rfl
  refine take_ (i := 8) (N := some 16) (v := .agg (nums .i64 t.now).toArray) (a' := ?_) #[true, true, true, true, true, true, true, true, true, false, false, false, false, false] rfl rfl (by kernel_rfl) (fun _ _ _ h => h) (load_row_y (by rfl) (.tmp 15) rfl g 1 rfl t.now H.out.good.now (fun u hu => hu.2.out)) hHeld ?_ ?_
  rotate_left
  · simp only [Act.put, List.setIfInBounds_toArray, List.set_cons_zero, List.set_cons_succ, i64_w, i32_w]
    rfl
  refine one_ (i := 9) (N := some 17) #[true, true, true, true, true, true, true, true, true, true, false, false, false, false] rfl rfl (by kernel_rfl) (by decide) (fun K hK => ?_)
  rw [if_pos (by rfl)]
  refine wp_build_row (.tmp 16) rfl t.now H.out.good.now rfl ?_
  refine hK.out _ _ ⟨by go_simp, ⟨World.rangeAt_alloc ((World.rangeAt_drew _ _ _ _).2 (World.rangeAt_alloc HN.out _)) _⟩⟩ (fun hHeld => ?_)
  clear hK K
  refine norm_ (a' := ?_) ?_ ?_
  rotate_left
  · show Act.put _ (some 17) _ = _
    simp only [Act.put, List.setIfInBounds_toArray, List.set_cons_zero, List.set_cons_succ, i64_w, i32_w]
    rfl
  refine last_ (i := 10) (N := some 18) #[true, true, true, true, true, true, true, true, true, true, true, false, false, false] rfl rfl (by kernel_rfl) (by decide) (fun K hK => ?_)
  have hBw := below_drew (below_alloc (Below.refl w.heap.size w) (.cells #[.int .i64 1, .int .i64 r, .int .i64 n] 40))
  refine Kd.R_append_step rowK (w0 := w) base (by rfl) (.tmp 12) (.tmp 17) 23 35 _ 296 rfl Try.underlying23 info35 rfl (by decide) (by decide) rv t.rows t.now (nums .i64 t.now) (fun k => k ≠ g ∧ some k ≠ kv.ownBlock) (fun _ => False) rfl rfl (row_M _ _ _ _ H.out.good.now) (fun _ h => h.elim) ?aF ?aO ?aB ?aS ?aL ?_
  case aF =>
    intro k hk
    have hk2 : w.heap.size + 1 ≤ k := by simpa using hk
    exact ⟨by omega, fun e => by have := Kd.R_lt H.out.kept k e.symm; omega⟩
  case aO => exact Kd.R_below H.out.rows hBw
  case aB => exact (below_drew (below_alloc (Below.refl w.heap.size w) _)).mono HB.out
  case aS => have := HB.out; simp; omega
  case aL => have := HK.out; omega
  intro v1 w1 ho hbb hgr hat
  have h1 := H.out.below hBw
  obtain ⟨A1, k1, rfl⟩ := Kd.R_slice ho
  have HW := hBw
  have hbox : (w.alloc (Obj.cells #[Value.int .i64 1, .int .i64 r, .int .i64 n] 40)).drew.heap[w.heap.size]? = some (.cells #[Value.int .i64 1, .int .i64 r, .int .i64 n] 40 (0, 0)) := blk_new w _
  generalize (w.alloc (Obj.cells #[Value.int .i64 1, .int .i64 r, .int .i64 n] 40)).drew = W at *
  have hbox1 := blk_grown hbox hgr (fun e => by have := Kd.R_lt H.out.rows _ e.symm; omega)
  have hc1 := blk_grown (h1.blk) hgr (fun e => (h1.rows.1 g e.symm).1 rfl)
  have hc3 : w1.cell? ⟨g, 0, none⟩ = some rv := by rw [blk_cell hc1]; rfl
  have hfz : w1.frozen? ⟨g, 0, none⟩ = false := blk_frozen hc1 0
  have HO := Aside0.mk ho
  have HGR := Aside0.mk hgr
  have HAT := Aside0.mk hat
  have HBW := Aside0.mk HW
  have HBOX := Aside0.mk hbox1
  clear ho hgr hat HW hBw hbb h1 hc1 hbox hbox1
  refine hK.out _ _ ?_
  clear hK K
  refine norm_ (a' := ?_) ?_ ?_
  rotate_left
  · show Act.put _ (some 18) _ = _
    simp only [Act.put, List.setIfInBounds_toArray, List.set_cons_zero, List.set_cons_succ, i64_w, i32_w]
    rfl
  refine pure_ (i := 11) (N := some 19) (v := ?_) (a' := ?_) #[true, true, true, true, true, true, true, true, true, true, true, true, false, false] rfl rfl (by kernel_rfl) (fun _ _ _ h => h) (Or.inl ⟨by rfl, ?_⟩) ?_ ?_
  rotate_left
  · intro u
    go_simp
    with_reducible rfl
  rotate_left
  · simp only [Act.put, List.setIfInBounds_toArray, List.set_cons_zero, List.set_cons_succ, i64_w, i32_w]
    rfl
  refine pure_ (i := 12) (N := some 20) (v := ?_) (a' := ?_) #[true, true, true, true, true, true, true, true, true, true, true, true, true, false] rfl rfl (by kernel_rfl) (fun _ _ _ h => h) (Or.inl ⟨by rfl, ?_⟩) ?_ ?_
  rotate_left
  · intro u
    go_simp
    with_reducible rfl
  rotate_left
  · simp only [Act.put, List.setIfInBounds_toArray, List.set_cons_zero, List.set_cons_succ, i64_w, i32_w]
    rfl
  refine last_ (i := 13) (N := none) #[true, true, true, true, true, true, true, true, true, true, true, true, true, true] rfl rfl (by kernel_rfl) (by decide) (fun K hK => ?_)
  rw [if_pos (by rfl)]
  go_simp
  refine hK.out _ _ ?_
  clear hK K
  refine done_ (by kernel_rfl) ?_
  have hlen : (t.rows ++ [t.now]).length = t.rows.length + 1 := by simp
  have ho := HO.out
  have hat := HAT.out
  rw [hlen] at ho hat
  have hT := H.out.rows_app HBW.out HGR.out hat ho HGD.out
  have hBel : Below base w (w1.setCell ⟨g, 0, none⟩ (.slice A1 (t.rows.length + 1) k1)) :=
    (((HBW.out.mono HB.out).grown HGR.out (by have := HB.out; have := HBW.out.size; omega) (fun k hk => Kd.R_base H.out.rows k hk)).setCell H.out.lo _)
  have hbox : (w1.setCell ⟨g, 0, none⟩ (.slice A1 (t.rows.length + 1) k1)).heap[w.heap.size]? = some (.cells #[Value.int .i64 1, .int .i64 r, .int .i64 n] 40 (0, 0)) := blk_far HBOX.out (by show w.heap.size ≠ g; omega) _
  clear ho hat hlen HO HGR HAT HBW HBOX hHeld hc3 hfz f1 f3 f5 HN hg
  have HBL := Aside0.mk hBel
  have HT := Aside0.mk hT
  have hle : base ≤ (w1.setCell ⟨g, 0, none⟩ (.slice A1 (t.rows.length + 1) k1)).heap.size := by have := hBel.size; have := HB.out; omega
  have HLE := Aside0.mk hle
  have c1 : (w1.setCell ⟨g, 0, none⟩ (.slice A1 (t.rows.length + 1) k1)).cell? ⟨g, 1, none⟩ = some (.int .i64 x) := by rw [← HX.out]; exact hT.now 0 (by omega)
  have c2 : (w1.setCell ⟨g, 0, none⟩ (.slice A1 (t.rows.length + 1) k1)).cell? ⟨g, 76, none⟩ = some (.int .i64 t.size) := hT.size
  have c3 := hT.free 1
  have c4 : (w1.setCell ⟨g, 0, none⟩ (.slice A1 (t.rows.length + 1) k1)).cell? ⟨w.heap.size, 2, none⟩ = some (.int .i64 n) := by rw [blk_cell hbox]; rfl
  clear hBel hT hle hbox
  generalize (w1.setCell ⟨g, 0, none⟩ (.slice A1 (t.rows.length + 1) k1)) = w2 at *
  generalize Value.slice A1 (t.rows.length + 1) k1 = v1 at *
  have hwr := HWR.out
  have hw64 : wrap64 (x + n) = x + n := (i64_w _).symm.trans hwr
  go_wp2
  refine still_tail 11 (by kernel_rfl) (by kernel_rfl) ?_
  simp only [List.take_succ_cons, List.take_zero, List.drop_succ_cons, List.drop_zero]
  repeat still_step
  refine wpStill_nil ?_
  go_wp2
  go_quiet (fail)
  go_wp2
  go_ret
  show Post base g w (act t 1 r n) (.returned (.bool (decide (x + n ≤ t.size)))) _
  have h1 := set_now HT.out.blk HT.out.good 0 (by omega) (x + n)
  have he := HE.out
  have hgr : w2.grownBy ((w2.setCell ⟨g, 1, none⟩ (.int .i64 (x + n))).drew.drewN nq) (some g) := grown_below' (grown_drew (grown_set _ _ _ _)) (pw_below_drewN (Below.refl _ _) _)
  have hb2 : Below base w ((w2.setCell ⟨g, 1, none⟩ (.int .i64 (x + n))).drew.drewN nq) := HBL.out.trans (below_grown hgr HLE.out HT.out.lo)
  by_cases c : x + n ≤ t.size
  · rw [if_pos c] at he
    rw [he, decide_eq_true c]
    refine ⟨rfl, hb2, fun t' e => ?_⟩
    have e' := e
    cases e
    exact ⟨_, _, HT.out.turn hgr (good_act H.out.good HM.out he) h1 rfl rfl⟩
  · rw [if_neg c] at he
    rw [he, decide_eq_false c]
    exact ⟨rfl, hb2, fun t' e => by cases e⟩
set_option maxRecDepth 100000 in
theorem recall_none (w : World) (base g : Nat) (t : T) (rv kv : Value) (h : Tab w base g t rv kv) (hb : base ≤ w.heap.size) (r n : Int) (hm : mayF 10 r n = true) (hk : t.kept = []) :
    Calls Try.prog 64 #[.pointer (some ⟨g, 0, none⟩), .agg #[.int .i64 10, .int .i64 r, .int .i64 n]] w (Post base g w (act t 10 r n)) := by
  have e : act t 10 r n = none := by
    show (if t.kept = [] then none else _) = _
    rw [if_pos hk]
  have HE := Aside0.mk e
  have hk2 := h.kept
  rw [hk] at hk2
  obtain ⟨A, c, rfl⟩ := Kd.R_slice hk2
  have f1 := h.keptC
  have hg := blk_lt h.blk
  have H := Aside0.mk h
  have HB := Aside0.mk hb
  clear h hb hm hk e hk2
  go_enter Try.func64, Try.ntmps64
  go_wp2
  go_ret
  exact Post.false ((below_alloc (Below.refl w.heap.size w) _).mono HB.out) HE.out
set_option maxHeartbeats 1000000 in
set_option maxRecDepth 100000 in
theorem recall_some (w : World) (base g : Nat) (t : T) (rv kv : Value) (h : Tab w base g t rv kv) (hb : base ≤ w.heap.size) (r n : Int) (hm : mayF 10 r n = true) (m : Nat) (hk : t.kept.length = m + 1) (hmm : m ≤ 1000000) :
    Calls Try.prog 64 #[.pointer (some ⟨g, 0, none⟩), .agg #[.int .i64 10, .int .i64 r, .int .i64 n]] w (Post base g w (act t 10 r n)) := by
  have hne : t.kept ≠ [] := fun e => by rw [e] at hk; cases hk
  have e : act t 10 r n = some { t with now := (t.kept.getLastD []).set 0 (t.now.getD 0 0), kept := t.kept.dropLast } := by
    show (if t.kept = [] then none else _) = _
    rw [if_neg hne]
  have hgd := good_act h.good hm e
  obtain ⟨l, hl⟩ : ∃ l, t.kept.getLastD [] = l := ⟨_, rfl⟩
  have hl37 : l.length = 37 := by rw [← hl]; exact h.good.kept _ (getLastD_mem hne)
  have hK := h.kept
  obtain ⟨A, c, hkv⟩ := Kd.R_slice hK
  rw [hk] at hkv
  subst hkv
  have hrd := Kd.R_reads' hK
  obtain ⟨ad, rfl⟩ : ∃ ad, A = some ad := by
    obtain ⟨ad, e, _⟩ := hrd.2.2.2.2 (by omega)
    exact ⟨ad, e⟩
  obtain ⟨b, rfl⟩ := Kd.R_head hK
  obtain ⟨cs, hcl, hM, hcc, hcf⟩ := Kd.R_elem hK ([] : Row) (m : Int) (by omega) (by omega)
  have hlm : t.kept.getD (m : Int).toNat [] = l := by
    rw [Int.toNat_natCast, ← hl, List.getLastD_eq_getLast?, List.getLast?_eq_getElem?, hk, Nat.add_sub_cancel, List.getD_eq_getElem?_getD]
  rw [hlm] at hM
  obtain ⟨_, rfl⟩ := row_K (rowK.K_of_M hM)
  have hra : w.rangeAt b (m * 37) (nums .i64 l) := fun j v hv => by
    have := hcc j v hv
    rwa [Int.toNat_natCast] at this
  have hbg : b ≠ g := (hK.1 b rfl).1
  have hT := Kd.R_take (m := m) hK (by omega)
  have hdl : t.kept.take m = t.kept.dropLast := by rw [List.dropLast_eq_take, hk, Nat.add_sub_cancel]
  rw [hdl] at hT
  have hix : ∀ W : World, (Instr.indexAt 23 (.slice (some ⟨b, 0, none⟩) (m + 1) c) (.int .i64 (m : Int))).run Try.prog W = .ok (.pointer (some ⟨b, m * 37, none⟩)) W := fun W => by
    have h2 : Try.prog.elem 23 = 35 := by kernel_rfl
    have h3 : (sizeOf 35).run Try.prog W = .ok 37 W := by kernel_rfl
    rw [run_indexAt_slice (P := Try.prog) W _ _ _ _ _ _ (by rw [h2]; exact Try.underlying23), if_pos (by omega), h2, h3]
    simp only [Result.andThen, Int.toNat_natCast, Addr.add_mid, Nat.zero_add]
  have hsl : ∀ W : World, (Instr.slice 23 (.slice (some ⟨b, 0, none⟩) (m + 1) c) none (some (.int .i64 (m : Int))) none).run Try.prog W = .ok (.slice (some ⟨b, 0, none⟩) m c) W := fun W => by
    obtain ⟨i0, hi, _⟩ := Option.map_eq_some_iff.1 info35
    have := cut_to (P := Try.prog) 23 35 .i64 Try.underlying23 hi (some ⟨b, 0, none⟩) (m + 1) c (m : Int) (by omega) (by omega) hrd.2.1 W
    rwa [Int.toNat_natCast] at this
  have f1 := h.keptC
  have f3 := h.free 75
  have hg := blk_lt h.blk
  have hblt := Kd.R_lt hK b rfl
  have f5 : w.cell? ⟨g, 1, none⟩ = some (.int .i64 (t.now.getD 0 0)) := h.now 0 (by omega)
  obtain ⟨x, hx⟩ : ∃ x, t.now.getD 0 0 = x := ⟨_, rfl⟩
  rw [hx] at f5
  rw [hl, hx] at e
  have HX := Aside0.mk hx
  have HE := Aside0.mk e
  have HT := Aside0.mk hT
  have HBG := Aside0.mk hbg
  have HRA := Aside0.mk hra
  have HGD := Aside0.mk hgd
  have hgd2 : Good { t with now := l.set 0 x, kept := t.kept.dropLast } := by rw [← hl, ← hx]; exact hgd
  have HGD2 := Aside0.mk hgd2
  clear hgd2
  have HL37 := Aside0.mk hl37
  have H := Aside0.mk h
  have HB := Aside0.mk hb
  have HMM := Aside0.mk hmm
  have hmw : IntKind.i64.wrap (m : Int) = m := by rw [IntKind.wrap_i64]; omega
  have HL := Aside0.mk hl
  clear h hb hm hk hmm hne e hgd hl hK hrd hcl hM hcc hcf hlm hra hbg hT hdl hx hl37 HL
  go_enter Try.func64, Try.ntmps64
  go_wp2
  refine start_ (n := 14) (S := fun u => u.cell? ⟨g, 75, none⟩ = some (.slice (some ⟨b, 0, none⟩) (m + 1) c) ∧ Aside0 (u.rangeAt b (m * 37) (nums .i64 l))) (ds := [13]) #[false, false, false, false, false, false, false, false, false, false, false, false, false, false] (by kernel_rfl) rfl rfl ?_ (fun hHeld => ?_)
  case refine_1 => exact ⟨by go_simp, ⟨(World.rangeAt_drew _ _ _ _).2 (World.rangeAt_alloc HRA.out _)⟩⟩
  refine pure_ (i := 0) (N := some 12) (v := ?_) (a' := ?_) #[true, false, false, false, false, false, false, false, false, false, false, false, false, false] rfl rfl (by kernel_rfl) (fun _ _ _ h => h) (Or.inl ⟨by rfl, ?_⟩) ?_ ?_
  rotate_left
  · intro u
    go_simp
    with_reducible rfl
  rotate_left
  · simp only [Act.put, List.setIfInBounds_toArray, List.set_cons_zero, List.set_cons_succ, i64_w, i32_w]
    rfl
  refine pure_ (i := 1) (N := some 13) (v := ?_) (a' := ?_) #[true, true, false, false, false, false, false, false, false, false, false, false, false, false] rfl rfl (by kernel_rfl) (fun _ _ _ h => h) (Or.inl ⟨by rfl, ?_⟩) ?_ ?_
  rotate_left
  · intro u
    go_simp
    with_reducible rfl
  rotate_left
  · simp only [Act.put, List.setIfInBounds_toArray, List.set_cons_zero, List.set_cons_succ, i64_w, i32_w]
    rfl
  refine pure_ (i := 2) (N := some 14) (v := ?_) (a' := ?_) #[true, true, true, false, false, false, false, false, false, false, false, false, false, false] rfl rfl (by kernel_rfl) (fun _ _ _ h => h) (Or.inl ⟨by rfl, ?_⟩) ?_ ?_
  rotate_left
  · intro u
    go_simp
    with_reducible rfl
  rotate_left
  · simp only [Act.put, List.setIfInBounds_toArray, List.set_cons_zero, List.set_cons_succ, i64_w, i32_w]
    rfl
  refine take_ (i := 3) (N := some 15) (v := ?_) (a' := ?_) #[true, true, true, true, false, false, false, false, false, false, false, false, false, false] rfl rfl (by kernel_rfl) (fun _ _ _ h => h) (Or.inl ⟨by rfl, ?_⟩) hHeld ?_ ?_
  rotate_left
  · rintro u ⟨s0, s1⟩
    go_simp
    with_reducible rfl
  rotate_left
  · simp only [Act.put, List.setIfInBounds_toArray, List.set_cons_zero, List.set_cons_succ, i64_w, i32_w]
    rfl
  refine pure_ (i := 4) (N := some 16) (v := ?_) (a' := ?_) #[true, true, true, true, true, false, false, false, false, false, false, false, false, false] rfl rfl (by kernel_rfl) (fun _ _ _ h => h) (Or.inl ⟨by rfl, ?_⟩) ?_ ?_
  rotate_left
  · intro u
    go_simp
    with_reducible rfl
  rotate_left
  · simp only [Act.put, List.setIfInBounds_toArray, List.set_cons_zero, List.set_cons_succ, i64_w, i32_w]
    rfl
  refine pure_ (i := 5) (N := some 17) (v := ?_) (a' := ?_) #[true, true, true, true, true, true, false, false, false, false, false, false, false, false] rfl rfl (by kernel_rfl) (fun _ _ _ h => h) (Or.inl ⟨by rfl, ?_⟩) ?_ ?_
  rotate_left
  · intro u
    go_simp
    with_reducible rfl
  rotate_left
  · simp only [Act.put, List.setIfInBounds_toArray, List.set_cons_zero, List.set_cons_succ, i64_w, i32_w]
    rfl
  refine pure_ (i := 6) (N := some 18) (v := ?_) (a' := ?_) #[true, true, true, true, true, true, true, false, false, false, false, false, false, false] rfl rfl (by kernel_rfl) (fun _ _ _ h => h) (Or.inl ⟨by rfl, ?_⟩) ?_ ?_
  rotate_left
  · intro u
    go_simp
    with_reducible rfl
  rotate_left
  · simp only [Act.put, List.setIfInBounds_toArray, List.set_cons_zero, List.set_cons_succ, i64_w, i32_w]
    rfl
  refine take_ (i := 7) (N := some 19) (v := ?_) (a' := ?_) #[true, true, true, true, true, true, true, true, false, false, false, false, false, false] rfl rfl (by kernel_rfl) (fun _ _ _ h => h) (Or.inl ⟨by rfl, ?_⟩) hHeld ?_ ?_
  rotate_left
  · rintro u ⟨s0, s1⟩
    go_simp
    with_reducible rfl
  rotate_left
  · simp only [Act.put, List.setIfInBounds_toArray, List.set_cons_zero, List.set_cons_succ, i64_w, i32_w]
    rfl
  refine pure_ (i := 8) (N := some 20) (v := ?_) (a' := ?_) #[true, true, true, true, true, true, true, true, true, false, false, false, false, false] rfl rfl (by kernel_rfl) (fun _ _ _ h => h) (Or.inl ⟨by rfl, ?_⟩) ?_ ?_
  rotate_left
  · intro u
    go_simp
    with_reducible rfl
  rotate_left
  · simp only [Act.put, List.setIfInBounds_toArray, List.set_cons_zero, List.set_cons_succ, i64_w, i32_w]
    rfl
  refine pure_ (i := 9) (N := some 21) (v := ?_) (a' := ?_) #[true, true, true, true, true, true, true, true, true, true, false, false, false, false] rfl rfl (by kernel_rfl) (fun _ _ _ h => h) (Or.inl ⟨by rfl, ?_⟩) ?_ ?_
  rotate_left
  · intro u
    go_simp
    with_reducible rfl
  rotate_left
  · simp only [Act.put, List.setIfInBounds_toArray, List.set_cons_zero, List.set_cons_succ, i64_w, i32_w]
    rfl
  refine pure_ (i := 10) (N := some 22) (v := ?_) (a' := ?_) #[true, true, true, true, true, true, true, true, true, true, true, false, false, false] rfl rfl (by kernel_rfl) (fun _ _ _ h => h) (Or.inl ⟨by rfl, ?_⟩) ?_ ?_
  rotate_left
  · intro u
    go_simp
    with_reducible rfl
  rotate_left
  · simp only [Act.put, List.setIfInBounds_toArray, List.set_cons_zero, List.set_cons_succ, i64_w, i32_w]
    rfl
  refine take_ (i := 11) (N := some 23) (v := .agg (nums .i64 l).toArray) (a' := ?_) #[true, true, true, true, true, true, true, true, true, true, true, true, false, false] rfl rfl (by kernel_rfl) (fun _ _ _ h => h) (load_row_y (by rfl) (.tmp 22) rfl b (m * 37) rfl l HL37.out (fun u hu => hu.2.out)) hHeld ?_ ?_
  rotate_left
  · simp only [Act.put, List.setIfInBounds_toArray, List.set_cons_zero, List.set_cons_succ, i64_w, i32_w]
    rfl
  refine one_ (i := 12) (N := some 5) #[true, true, true, true, true, true, true, true, true, true, true, true, true, false] rfl rfl (by kernel_rfl) (by decide) (fun K hK => ?_)
  rw [if_pos (by rfl)]
  refine alloc_rowK rowTy rfl ?_
  refine hK.out _ _ ⟨by go_simp, ⟨World.rangeAt_alloc ((World.rangeAt_drew _ _ _ _).2 (World.rangeAt_alloc HRA.out _)) _⟩⟩ (fun hHeld => ?_)
  clear hK K
  refine norm_ (a' := ?_) ?_ ?_
  rotate_left
  · show Act.put _ (some 5) _ = _
    simp only [Act.put, List.setIfInBounds_toArray, List.set_cons_zero, List.set_cons_succ, i64_w, i32_w]
    rfl
  refine last_ (i := 13) (N := none) #[true, true, true, true, true, true, true, true, true, true, true, true, true, true] rfl rfl (by kernel_rfl) (by decide) (fun K hK => ?_)
  rw [if_pos (by rfl)]
  have hBw := below_drew (below_alloc (Below.refl w.heap.size w) (.cells #[.int .i64 10, .int .i64 r, .int .i64 n] 40))
  generalize (w.alloc (Obj.cells #[Value.int .i64 10, .int .i64 r, .int .i64 n] 40)).drew = W at *
  obtain ⟨hb1, hb2⟩ := box_new (tr := 35) (w := W) (g := W.heap.size) rfl HL37.out
  refine store_rowK rowTy (.tmp 5) (.tmp 23) rfl W.heap.size 0 l HL37.out rfl rfl (there_of_blk (blk_new W _) (by rw [List.size_toArray, nums_length, zrow_len]; decide)) ?_
  generalize (W.alloc (.cells (nums .i64 zrow).toArray 35)).setCells W.heap.size 0 (nums .i64 l) = w3 at *
  have hB3 : Below w.heap.size w w3 := below_step hBw hb2
  have hgx : g ≠ W.heap.size := by have := hBw.size; omega
  refine hK.out _ _ ?_
  clear hK K
  refine done_ (by kernel_rfl) ?_
  have HX0W := Aside0.mk (show w.heap.size ≤ W.heap.size from hBw.size)
  generalize W.heap.size = x0 at *
  have hxg : x0 ≠ g := fun e => hgx e.symm
  have hT3 := H.out.below hB3
  have HB3 := Aside0.mk hB3
  have HX0 := Aside0.mk hb1
  have d1 := hT3.keptC
  have d2 := hT3.free 75
  have HT3 := Aside0.mk hT3
  have HK3 := Aside0.mk (Kd.R_below HT.out hB3)
  have d3 : w3.cell? ⟨g, 1, none⟩ = some (.int .i64 x) := by rw [← HX.out]; exact hT3.now 0 (by omega)
  have d4 : w3.cell? ⟨x0, 0, none⟩ = some (.int .i64 (l.getD 0 0)) := by rw [blk_cell hb1, List.getElem?_toArray]; exact nums_get (by rw [HL37.out]; decide)
  have d5 : w3.frozen? ⟨x0, 0, none⟩ = false := blk_frozen hb1 0
  have hxg : x0 ≠ g := fun e => hgx e.symm
  have hgk : Good { t with kept := t.kept.dropLast } := ⟨hT3.good.now, hT3.good.first, hT3.good.rows, fun q hq => hT3.good.kept q (List.dropLast_subset _ hq), hT3.good.at0, hT3.good.size, hT3.good.atS⟩
  have HGK := Aside0.mk hgk
  have g1 := set_kept hT3.blk hT3.good (.slice (some ⟨b, 0, none⟩) m c) t.kept.dropLast
  have g2 := blk_drew (blk_far g1 (p := ⟨x0, 0, none⟩) hgx (.int .i64 x))
  have x1 : ((w3.setCell ⟨g, 75, none⟩ (.slice (some ⟨b, 0, none⟩) m c)).setCell ⟨x0, 0, none⟩ (.int .i64 x)).drew.heap[x0]? = some (.cells (nums .i64 (l.set 0 x)).toArray 35 (0, 0)) :=
    blk_drew (blk_put (blk_far hb1 (p := ⟨g, 75, none⟩) hxg _) 0 _ (by rw [List.setIfInBounds_toArray, nums, nums, List.map_set]))
  have HC := Aside0.mk (range_of_blk x1)
  have HTH := Aside0.mk (there_of_blk (o := 1) (n := 37) g2 (by rw [List.size_toArray, cells_len hgk]; decide))
  have HG2 := Aside0.mk g2
  have HLS := Aside0.mk (show (l.set 0 x).length = 37 by rw [List.length_set]; exact HL37.out)
  clear hB3 hb1 hb2 hBw hT3 hHeld f1 f3 f5 HRA g1 g2 x1 hgk
  go_wp2
  refine still_tail 14 (by kernel_rfl) (by kernel_rfl) ?_
  simp only [List.take_succ_cons, List.take_zero, List.drop_succ_cons, List.drop_zero]
  repeat still_step
  refine wpStill_nil ?_
  go_wp2_with (first
    | (refine load_rowW rowTy rfl (.tmp 5) rfl x0 0 rfl (l.set 0 x) HLS.out HC.out ?_)
    | (refine store_rowW rowTy rfl (.tmp 47) (.tmp 45) rfl g 1 (l.set 0 x) HLS.out rfl rfl HTH.out ?_))
  go_ret
  have e := HE.out
  rw [e]
  have hb3 := HB3.out
  have hx0 : w.heap.size ≤ x0 := HX0W.out
  have hbel : Below base w (((w3.setCell ⟨g, 75, none⟩ (.slice (some ⟨b, 0, none⟩) m c)).setCell ⟨x0, 0, none⟩ (.int .i64 x)).drew.setCells g 1 (nums .i64 (l.set 0 x))) := by
    have h1 : Below base w ((w3.setCell ⟨g, 75, none⟩ (.slice (some ⟨b, 0, none⟩) m c)).setCell ⟨x0, 0, none⟩ (.int .i64 x)).drew :=
      below_drew (((hb3.mono HB.out).setCell H.out.lo _).setCell (Nat.le_trans HB.out hx0) _)
    exact h1.trans (below_grown (grown_setCells _ _ _ _) (Nat.le_trans HB.out h1.size) H.out.lo)
  refine ⟨rfl, hbel, fun t' e2 => ?_⟩
  cases e2
  have hmv : ∀ k, k ≠ g → k < w.heap.size → (((w3.setCell ⟨g, 75, none⟩ (.slice (some ⟨b, 0, none⟩) m c)).setCell ⟨x0, 0, none⟩ (.int .i64 x)).drew.setCells g 1 (nums .i64 (l.set 0 x))).heap[k]? = w.heap[k]? := fun k hk hlt => by
    rw [setCells_far _ _ _ hk]
    show ((w3.setCell ⟨g, 75, none⟩ _).setCell ⟨x0, 0, none⟩ _).heap[k]? = _
    rw [Below.heap_setCell _ _ _ _ (show k ≠ x0 by omega), Below.heap_setCell _ _ _ _ (show k ≠ g from hk)]
    exact hb3.block k hlt
  refine ⟨_, _, HGD2.out, H.out.lo, set_nowAll HG2.out HGK.out _ HLS.out, ?_, ?_⟩
  · exact Kd.R_step H.out.rows (fun k hk hlt => hmv k hk.1 hlt)
  · exact Kd.R_step HT.out (fun k hk hlt => hmv k hk.1 hlt)
theorem recall_calls (w : World) (base g : Nat) (t : T) (rv kv : Value) (h : Tab w base g t rv kv) (hb : base ≤ w.heap.size) (r n : Int) (hm : mayF 10 r n = true) (hk : t.kept.length ≤ 1000000) :
    Calls Try.prog 64 #[.pointer (some ⟨g, 0, none⟩), .agg #[.int .i64 10, .int .i64 r, .int .i64 n]] w (Post base g w (act t 10 r n)) := by
  rcases Nat.eq_zero_or_pos t.kept.length with h0 | h0
  · exact recall_none w base g t rv kv h hb r n hm (List.eq_nil_of_length_eq_zero h0)
  · obtain ⟨m, e⟩ : ∃ m, t.kept.length = m + 1 := ⟨t.kept.length - 1, by omega⟩
    exact recall_some w base g t rv kv h hb r n hm m e (by omega)
end Go.Proofs.Ytngddlihppomhaa.Cfa
