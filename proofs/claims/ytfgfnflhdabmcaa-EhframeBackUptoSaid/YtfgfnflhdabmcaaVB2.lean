/- Lemmas and contracts, one text behind the other: what the row of this claim needs; no conditions beyond those that each theorem names. -/
import Derived.Laws.EntriesVeiled
import Derived.Laws.BitsLemmas
import Derived.Laws.Bits64b
import Derived.Test.YtfgfnflhdabmcaaVB1
set_option linter.unusedVariables false
set_option linter.unusedSimpArgs false
set_option maxRecDepth 100000
section
namespace Go.Proofs.Ytfgfnflhdabmcaa.Cfa
open Go.RowKit Go.Proofs.Ytfgfnflhdabmcaa.G Go.Proofs.YtfgfnflhdabmcaaW.PrintWords Go.Proofs.YtfgfnflhdabmcaaW.PrintLast Go.Proofs.YtfgfnflhdabmcaaW.PrintMore
theorem remember_calls (w : World) (base g : Nat) (t : T) (rv kv : Value) (h : Tab w base g t rv kv) (hb : base ≤ w.heap.size) (r n : Int) (hm : mayF 9 r n = true) (hk : t.kept.length ≤ 1000000) :
    Calls Try.prog 104 #[.pointer (some ⟨g, 0, none⟩), .agg #[.int .i64 9, .int .i64 r, .int .i64 n]] w (Post base g w (act t 9 r n)) := by
 have e : act t 9 r n = if t.kept.length + 1 ≤ 64 then some { t with kept := t.kept ++ [t.now] } else none := rfl
 have HE := am e
 have hgd : Good { t with kept := t.kept ++ [t.now] } := by
  refine ⟨h.good.now, h.good.first, h.good.rows, fun q hq => ?_, h.good.at0, h.good.size, h.good.atS⟩
  rcases List.mem_append.1 hq with hq | hq
  ·
   exact h.good.kept q hq
  rw [List.mem_singleton.1 hq]; exact h.good.now
 have HGD := am hgd
 clear e hgd
 have f1 := h.keptC
 have f3 := h.free 75
 have hg := blk_lt h.blk
 have HN := am h.nowR
 have H := am h
 have HB := am hb
 have HK := am hk
 clear h hb hm hk
 go_enter Try.func104, Try.ntmps104
 go_wp2
 refine start_ (n := 14) (S := fun u => u.cell? ⟨g, 75, none⟩ = some kv ∧ Aside0 (u.rangeAt g 1 (nums .i64 t.now))) (ds := [10, 13]) (bm 14 0) (by kernel_rfl) rfl rfl ?_ (fun hHeld => ?_)
 case refine_1 => exact ⟨by go_simp, ⟨(World.rangeAt_drew _ _ _ _).2 (World.rangeAt_alloc HN.out _)⟩⟩
 refine pure_ (i := 0) (N := some 5) (v := ?_) (a' := ?_) (bm 14 1) rfl rfl (by kernel_rfl) (fun _ _ _ h => h) (Or.inl ⟨by rfl, ?_⟩) ?_ ?_
 rotate_left
 ·
  intro u
  go_simp
  with_reducible rfl
 rotate_left
 ·
  simp only [pz]
  rfl
 refine pure_ (i := 1) (N := some 6) (v := ?_) (a' := ?_) (bm 14 3) rfl rfl (by kernel_rfl) (fun _ _ _ h => h) (Or.inl ⟨by rfl, ?_⟩) ?_ ?_
 rotate_left
 ·
  intro u
  go_simp
  with_reducible rfl
 rotate_left
 ·
  simp only [pz]
  rfl
 refine pure_ (i := 2) (N := some 7) (v := ?_) (a' := ?_) (bm 14 7) rfl rfl (by kernel_rfl) (fun _ _ _ h => h) (Or.inl ⟨by rfl, ?_⟩) ?_ ?_
 rotate_left
 ·
  intro u
  go_simp
  with_reducible rfl
 rotate_left
 ·
  simp only [pz]
  rfl
 refine pure_ (i := 3) (N := some 8) (v := ?_) (a' := ?_) (bm 14 15) rfl rfl (by kernel_rfl) (fun _ _ _ h => h) (Or.inl ⟨by rfl, ?_⟩) ?_ ?_
 rotate_left
 ·
  intro u
  go_simp
  with_reducible rfl
 rotate_left
 ·
  simp only [pz]
  rfl
 refine take_ (i := 4) (N := some 9) (v := ?_) (a' := ?_) (bm 14 31) rfl rfl (by kernel_rfl) (fun _ _ _ h => h) (Or.inl ⟨by rfl, ?_⟩) hHeld ?_ ?_
 rotate_left
 ·
  rintro u ⟨s0, s1⟩
  go_simp
  with_reducible rfl
 rotate_left
 ·
  simp only [pz]
  rfl
 refine pure_ (i := 5) (N := some 10) (v := ?_) (a' := ?_) (bm 14 63) rfl rfl (by kernel_rfl) (fun _ _ _ h => h) (Or.inl ⟨by rfl, ?_⟩) ?_ ?_
 rotate_left
 ·
  intro u
  go_simp
  with_reducible rfl
 rotate_left
 ·
  simp only [pz]
  rfl
 refine pure_ (i := 6) (N := some 11) (v := ?_) (a' := ?_) (bm 14 127) rfl rfl (by kernel_rfl) (fun _ _ _ h => h) (Or.inl ⟨by rfl, ?_⟩) ?_ ?_
 rotate_left
 ·
  intro u
  go_simp
  with_reducible rfl
 rotate_left
 ·
  simp only [pz]
  rfl
 refine pure_ (i := 7) (N := some 12) (v := ?_) (a' := ?_) (bm 14 255) rfl rfl (by kernel_rfl) (fun _ _ _ h => h) (Or.inl ⟨by rfl, ?_⟩) ?_ ?_
 rotate_left
 ·
  intro u
  go_simp
  with_reducible rfl
 rotate_left
 ·
  simp only [pz]
  rfl
 refine take_ (i := 8) (N := some 13) (v := .agg (nums .i64 t.now).toArray) (a' := ?_) (bm 14 511) rfl rfl (by kernel_rfl) (fun _ _ _ h => h) (load_row_y (by rfl) (.tmp 12) rfl g 1 rfl t.now H.out.good.now (fun u hu => hu.2.out)) hHeld ?_ ?_
 rotate_left
 ·
  simp only [pz]
  rfl
 refine one_ (i := 9) (N := some 14) (bm 14 1023) rfl rfl (by kernel_rfl) (by decide) (fun K hK => ?_)
 rw [if_pos (by rfl)]
 refine wp_build_row (.tmp 13) rfl t.now H.out.good.now rfl ?_
 refine hK.out _ _ ⟨by go_simp, ⟨World.rangeAt_alloc ((World.rangeAt_drew _ _ _ _).2 (World.rangeAt_alloc HN.out _)) _⟩⟩ (fun hHeld => ?_)
 clear hK K
 refine norm_ (a' := ?_) ?_ ?_
 rotate_left
 ·
  show Act.put _ (some 14) _ = _
  simp only [pz]
  rfl
 refine last_ (i := 10) (N := some 15) (bm 14 2047) rfl rfl (by kernel_rfl) (by decide) (fun K hK => ?_)
 have hBw := below_drew (below_alloc (Below.refl w.heap.size w) (.cells #[.int .i64 9, .int .i64 r, .int .i64 n] 105))
 refine Kd.R_append_step rowK (w0 := w) base (by rfl) (.tmp 9) (.tmp 14) 111 145 _ 296 rfl Try.underlying111 info145 rfl (by decide) (by decide) kv t.kept t.now (nums .i64 t.now) (fun k => k ≠ g ∧ some k ≠ rv.ownBlock) (fun _ => False) rfl rfl (row_M _ _ _ _ H.out.good.now) (fun _ h => h.elim) ?aF ?aO ?aB ?aS ?aL ?_
 case aF =>
  intro k hk
  have hk2 : w.heap.size + 1 ≤ k := by simpa using hk
  exact ⟨by omega, fun e => by have := Kd.R_lt H.out.rows k e.symm; omega⟩
 case aO => exact Kd.R_below H.out.kept hBw
 case aB => exact (below_drew (below_alloc (Below.refl w.heap.size w) _)).mono HB.out
 case aS => have := HB.out; simp; omega
 case aL => have := HK.out; omega
 intro v1 w1 ho hbb hgr hat
 have h1 := H.out.below hBw
 obtain ⟨A1, k1, rfl⟩ := Kd.R_slice ho
 have HW := hBw
 generalize (w.alloc (Obj.cells #[Value.int .i64 9, .int .i64 r, .int .i64 n] 105)).drew = W at *
 have hc1 := blk_grown (h1.blk) hgr (fun e => (h1.kept.1 g e.symm).1 rfl)
 have hc3 : w1.cell? ⟨g, 75, none⟩ = some kv := by rw [blk_cell hc1, List.getElem?_toArray]; exact cells_tail H.out.good 0
 have hfz : w1.frozen? ⟨g, 75, none⟩ = false := blk_frozen hc1 75
 have HO := am ho
 have HGR := am hgr
 have HAT := am hat
 have HBW := am HW
 clear ho hgr hat HW hBw hbb h1 hc1
 refine hK.out _ _ ?_
 clear hK K
 refine norm_ (a' := ?_) ?_ ?_
 rotate_left
 ·
  show Act.put _ (some 15) _ = _
  simp only [pz]
  rfl
 refine pure_ (i := 11) (N := some 16) (v := ?_) (a' := ?_) (bm 14 4095) rfl rfl (by kernel_rfl) (fun _ _ _ h => h) (Or.inl ⟨by rfl, ?_⟩) ?_ ?_
 rotate_left
 ·
  intro u
  go_simp
  with_reducible rfl
 rotate_left
 ·
  simp only [pz]
  rfl
 refine pure_ (i := 12) (N := some 17) (v := ?_) (a' := ?_) (bm 14 8191) rfl rfl (by kernel_rfl) (fun _ _ _ h => h) (Or.inl ⟨by rfl, ?_⟩) ?_ ?_
 rotate_left
 ·
  intro u
  go_simp
  with_reducible rfl
 rotate_left
 ·
  simp only [pz]
  rfl
 refine last_ (i := 13) (N := none) (bm 14 16383) rfl rfl (by kernel_rfl) (by decide) (fun K hK => ?_)
 rw [if_pos (by rfl)]
 go_simp
 refine hK.out _ _ ?_
 clear hK K
 refine done_ (by kernel_rfl) ?_
 go_wp2
 go_ret
 have hlen : (t.kept ++ [t.now]).length = t.kept.length + 1 := by simp
 have ho := HO.out
 have hat := HAT.out
 rw [hlen] at ho hat
 have hT := H.out.kept_app HBW.out HGR.out hat ho HGD.out
 have hBel : Below base w (w1.setCell ⟨g, 75, none⟩ (.slice A1 (t.kept.length + 1) k1)) :=
   (((HBW.out.mono HB.out).grown HGR.out (by have := HB.out; have := HBW.out.size; omega) (fun k hk => Kd.R_base H.out.kept k hk)).setCell H.out.lo _)
 have he := HE.out
 by_cases c : t.kept.length + 1 ≤ 64
 ·
  rw [if_pos c] at he
  rw [he]
  exact ⟨by rw [decide_eq_true (by omega)]; rfl, hBel, fun t' e => by cases e; exact ⟨_, _, hT⟩⟩
 rw [if_neg c] at he
 rw [he]
 exact ⟨by rw [decide_eq_false (by omega)]; rfl, hBel, fun t' e => by cases e⟩
theorem advance_calls (w : World) (base g : Nat) (t : T) (rv kv : Value) (h : Tab w base g t rv kv) (hb : base ≤ w.heap.size) (r n : Int) (hm : mayF 1 r n = true) (hk : t.rows.length ≤ 1000000) (hs : 0 ≤ t.size) :
    Calls Try.prog 96 #[.pointer (some ⟨g, 0, none⟩), .agg #[.int .i64 1, .int .i64 r, .int .i64 n]] w (Post base g w (act t 1 r n)) := by
 by_cases hn : n = 0
 ·
  subst hn
  go_enter Try.func96, Try.ntmps96
  go_wp2
  go_ret
  exact Post.turn h hb (grown_alloc (World.grownBy.refl _ _) _) hm rfl rfl rfl (blk_alloc h.blk _)
 have e : act t 1 r n = if t.now.getD 0 0 + n ≤ t.size then some { t with rows := t.rows ++ [t.now], now := t.now.set 0 (t.now.getD 0 0 + n) } else none := by
  show (if n = 0 then _ else _) = _
  rw [if_neg hn]
 obtain ⟨hn1, hn2⟩ := may_ne hn
 have hgd : Good { t with rows := t.rows ++ [t.now] } := by
  refine ⟨h.good.now, h.good.first, fun q hq => ?_, h.good.kept, h.good.at0, h.good.size, h.good.atS⟩
  rcases List.mem_append.1 hq with hq | hq
  ·
   exact h.good.rows q hq
  rw [List.mem_singleton.1 hq]; exact h.good.now
 have hat0 := h.good.at0
 have hat1 := h.good.atS hs
 have hat2 := h.good.size
 have hnn := may_n hm rfl
 have f1 := h.rowsC
 have f3 := h.free 0
 have hg := blk_lt h.blk
 have HN := am h.nowR
 have f5 : w.cell? ⟨g, 1, none⟩ = some (.int .i64 (t.now.getD 0 0)) := h.now 0 (by omega)
 obtain ⟨x, hx⟩ : ∃ x, t.now.getD 0 0 = x := ⟨_, rfl⟩
 rw [hx] at hat0 hat1 e f5
 have HX := am hx
 have HE := am e
 have HGD := am hgd
 have hwr : IntKind.i64.wrap (x + n) = x + n := by rw [IntKind.wrap_i64]; omega
 have HWR := am hwr
 have HSUM := am (show 0 ≤ x + n from by omega)
 have H := am h
 have HB := am hb
 have HK := am hk
 have HM := am hm
 clear h hb hm hk hs hn hat0 hat1 hat2 hnn e hgd hx hwr
 go_enter Try.func96, Try.ntmps96
 go_wp2
 refine start_ (n := 14) (S := fun u => u.cell? ⟨g, 0, none⟩ = some rv ∧ Aside0 (u.rangeAt g 1 (nums .i64 t.now))) (ds := [10, 13]) (bm 14 0) (by kernel_rfl) rfl rfl ?_ (fun hHeld => ?_)
 case refine_1 => exact ⟨by go_simp, ⟨(World.rangeAt_drew _ _ _ _).2 (World.rangeAt_alloc HN.out _)⟩⟩
 refine pure_ (i := 0) (N := some 8) (v := ?_) (a' := ?_) (bm 14 1) rfl rfl (by kernel_rfl) (fun _ _ _ h => h) (Or.inl ⟨by rfl, ?_⟩) ?_ ?_
 rotate_left
 ·
  intro u
  go_simp
  with_reducible rfl
 rotate_left
 ·
  simp only [pz]
  rfl
 refine pure_ (i := 1) (N := some 9) (v := ?_) (a' := ?_) (bm 14 3) rfl rfl (by kernel_rfl) (fun _ _ _ h => h) (Or.inl ⟨by rfl, ?_⟩) ?_ ?_
 rotate_left
 ·
  intro u
  go_simp
  with_reducible rfl
 rotate_left
 ·
  simp only [pz]
  rfl
 refine pure_ (i := 2) (N := some 10) (v := ?_) (a' := ?_) (bm 14 7) rfl rfl (by kernel_rfl) (fun _ _ _ h => h) (Or.inl ⟨by rfl, ?_⟩) ?_ ?_
 rotate_left
 ·
  intro u
  go_simp
  with_reducible rfl
 rotate_left
 ·
  simp only [pz]
  rfl
 refine pure_ (i := 3) (N := some 11) (v := ?_) (a' := ?_) (bm 14 15) rfl rfl (by kernel_rfl) (fun _ _ _ h => h) (Or.inl ⟨by rfl, ?_⟩) ?_ ?_
 rotate_left
 ·
  intro u
  go_simp
  with_reducible rfl
 rotate_left
 ·
  simp only [pz]
  rfl
 refine take_ (i := 4) (N := some 12) (v := ?_) (a' := ?_) (bm 14 31) rfl rfl (by kernel_rfl) (fun _ _ _ h => h) (Or.inl ⟨by rfl, ?_⟩) hHeld ?_ ?_
 rotate_left
 ·
  rintro u ⟨s0, s1⟩
  go_simp
  with_reducible rfl
 rotate_left
 ·
  simp only [pz]
  rfl
 refine pure_ (i := 5) (N := some 13) (v := ?_) (a' := ?_) (bm 14 63) rfl rfl (by kernel_rfl) (fun _ _ _ h => h) (Or.inl ⟨by rfl, ?_⟩) ?_ ?_
 rotate_left
 ·
  intro u
  go_simp
  with_reducible rfl
 rotate_left
 ·
  simp only [pz]
  rfl
 refine pure_ (i := 6) (N := some 14) (v := ?_) (a' := ?_) (bm 14 127) rfl rfl (by kernel_rfl) (fun _ _ _ h => h) (Or.inl ⟨by rfl, ?_⟩) ?_ ?_
 rotate_left
 ·
  intro u
  go_simp
  with_reducible rfl
 rotate_left
 ·
  simp only [pz]
  rfl
 refine pure_ (i := 7) (N := some 15) (v := ?_) (a' := ?_) (bm 14 255) rfl rfl (by kernel_rfl) (fun _ _ _ h => h) (Or.inl ⟨by rfl, ?_⟩) ?_ ?_
 rotate_left
 ·
  intro u
  go_simp
  with_reducible rfl
 rotate_left
 ·
  simp only [pz]
  rfl
 refine take_ (i := 8) (N := some 16) (v := .agg (nums .i64 t.now).toArray) (a' := ?_) (bm 14 511) rfl rfl (by kernel_rfl) (fun _ _ _ h => h) (load_row_y (by rfl) (.tmp 15) rfl g 1 rfl t.now H.out.good.now (fun u hu => hu.2.out)) hHeld ?_ ?_
 rotate_left
 ·
  simp only [pz]
  rfl
 refine one_ (i := 9) (N := some 17) (bm 14 1023) rfl rfl (by kernel_rfl) (by decide) (fun K hK => ?_)
 rw [if_pos (by rfl)]
 refine wp_build_row (.tmp 16) rfl t.now H.out.good.now rfl ?_
 refine hK.out _ _ ⟨by go_simp, ⟨World.rangeAt_alloc ((World.rangeAt_drew _ _ _ _).2 (World.rangeAt_alloc HN.out _)) _⟩⟩ (fun hHeld => ?_)
 clear hK K
 refine norm_ (a' := ?_) ?_ ?_
 rotate_left
 ·
  show Act.put _ (some 17) _ = _
  simp only [pz]
  rfl
 refine last_ (i := 10) (N := some 18) (bm 14 2047) rfl rfl (by kernel_rfl) (by decide) (fun K hK => ?_)
 have hBw := below_drew (below_alloc (Below.refl w.heap.size w) (.cells #[.int .i64 1, .int .i64 r, .int .i64 n] 105))
 refine Kd.R_append_step rowK (w0 := w) base (by rfl) (.tmp 12) (.tmp 17) 111 145 _ 296 rfl Try.underlying111 info145 rfl (by decide) (by decide) rv t.rows t.now (nums .i64 t.now) (fun k => k ≠ g ∧ some k ≠ kv.ownBlock) (fun _ => False) rfl rfl (row_M _ _ _ _ H.out.good.now) (fun _ h => h.elim) ?aF ?aO ?aB ?aS ?aL ?_
 case aF =>
  intro k hk
  have hk2 : w.heap.size + 1 ≤ k := by simpa using hk
  exact ⟨by omega, fun e => by have := Kd.R_lt H.out.kept k e.symm; omega⟩
 case aO => exact Kd.R_below H.out.rows hBw
 case aB => exact (below_drew (below_alloc (Below.refl w.heap.size w) _)).mono HB.out
 case aS => have := HB.out; simp; omega
 case aL => have := HK.out; omega
 intro v1 w1 ho hbb hgr hat
 have h1 := H.out.below hBw
 obtain ⟨A1, k1, rfl⟩ := Kd.R_slice ho
 have HW := hBw
 have hbox : (w.alloc (Obj.cells #[Value.int .i64 1, .int .i64 r, .int .i64 n] 105)).drew.heap[w.heap.size]? = some (.cells #[Value.int .i64 1, .int .i64 r, .int .i64 n] 105 (0, 0)) := blk_new w _
 generalize (w.alloc (Obj.cells #[Value.int .i64 1, .int .i64 r, .int .i64 n] 105)).drew = W at *
 have hbox1 := blk_grown hbox hgr (fun e => by have := Kd.R_lt H.out.rows _ e.symm; omega)
 have hc1 := blk_grown (h1.blk) hgr (fun e => (h1.rows.1 g e.symm).1 rfl)
 have hc3 : w1.cell? ⟨g, 0, none⟩ = some rv := by rw [blk_cell hc1]; rfl
 have hfz : w1.frozen? ⟨g, 0, none⟩ = false := blk_frozen hc1 0
 have HO := am ho
 have HGR := am hgr
 have HAT := am hat
 have HBW := am HW
 have HBOX := am hbox1
 clear ho hgr hat HW hBw hbb h1 hc1 hbox hbox1
 refine hK.out _ _ ?_
 clear hK K
 refine norm_ (a' := ?_) ?_ ?_
 rotate_left
 ·
  show Act.put _ (some 18) _ = _
  simp only [pz]
  rfl
 refine pure_ (i := 11) (N := some 19) (v := ?_) (a' := ?_) (bm 14 4095) rfl rfl (by kernel_rfl) (fun _ _ _ h => h) (Or.inl ⟨by rfl, ?_⟩) ?_ ?_
 rotate_left
 ·
  intro u
  go_simp
  with_reducible rfl
 rotate_left
 ·
  simp only [pz]
  rfl
 refine pure_ (i := 12) (N := some 20) (v := ?_) (a' := ?_) (bm 14 8191) rfl rfl (by kernel_rfl) (fun _ _ _ h => h) (Or.inl ⟨by rfl, ?_⟩) ?_ ?_
 rotate_left
 ·
  intro u
  go_simp
  with_reducible rfl
 rotate_left
 ·
  simp only [pz]
  rfl
 refine last_ (i := 13) (N := none) (bm 14 16383) rfl rfl (by kernel_rfl) (by decide) (fun K hK => ?_)
 rw [if_pos (by rfl)]
 go_simp
 refine hK.out _ _ ?_
 clear hK K
 refine done_ (by kernel_rfl) ?_
 have hlen : (t.rows ++ [t.now]).length = t.rows.length + 1 := by simp
 have ho := HO.out
 have hat := HAT.out
 rw [hlen] at ho hat
 have hT := H.out.rows_app HBW.out HGR.out hat ho HGD.out
 have hBel : Below base w (w1.setCell ⟨g, 0, none⟩ (.slice A1 (t.rows.length + 1) k1)) :=
   (((HBW.out.mono HB.out).grown HGR.out (by have := HB.out; have := HBW.out.size; omega) (fun k hk => Kd.R_base H.out.rows k hk)).setCell H.out.lo _)
 have hbox : (w1.setCell ⟨g, 0, none⟩ (.slice A1 (t.rows.length + 1) k1)).heap[w.heap.size]? = some (.cells #[Value.int .i64 1, .int .i64 r, .int .i64 n] 105 (0, 0)) := blk_far HBOX.out (by show w.heap.size ≠ g; omega) _
 clear ho hat hlen HO HGR HAT HBW HBOX hHeld hc3 hfz f1 f3 f5 HN hg
 have HBL := am hBel
 have HT := am hT
 have hle : base ≤ (w1.setCell ⟨g, 0, none⟩ (.slice A1 (t.rows.length + 1) k1)).heap.size := by have := hBel.size; have := HB.out; omega
 have HLE := am hle
 have c1 : (w1.setCell ⟨g, 0, none⟩ (.slice A1 (t.rows.length + 1) k1)).cell? ⟨g, 1, none⟩ = some (.int .i64 x) := by rw [← HX.out]; exact hT.now 0 (by omega)
 have c2 : (w1.setCell ⟨g, 0, none⟩ (.slice A1 (t.rows.length + 1) k1)).cell? ⟨g, 76, none⟩ = some (.int .i64 t.size) := hT.size
 have c3 := hT.free 1
 have c4 : (w1.setCell ⟨g, 0, none⟩ (.slice A1 (t.rows.length + 1) k1)).cell? ⟨w.heap.size, 2, none⟩ = some (.int .i64 n) := by rw [blk_cell hbox]; rfl
 clear hBel hT hle hbox
 generalize (w1.setCell ⟨g, 0, none⟩ (.slice A1 (t.rows.length + 1) k1)) = w2 at *
 generalize Value.slice A1 (t.rows.length + 1) k1 = v1 at *
 have hwr := HWR.out
 have hw64 : wrap64 (x + n) = x + n := (i64_w _).symm.trans hwr
 go_wp2
 refine still_tail 11 (by kernel_rfl) (by kernel_rfl) ?_
 simp only [List.take_succ_cons, List.take_zero, List.drop_succ_cons, List.drop_zero]
 repeat still_step
 refine wpStill_nil ?_
 go_wp2
 go_quiet (fail)
 go_wp2
 go_ret
 show Post base g w (act t 1 r n) (.returned (.bool (decide (x + n ≤ t.size)))) _
 have h1 := set_now HT.out.blk HT.out.good 0 (by omega) (x + n)
 have he := HE.out
 have hgr : w2.grownBy ((w2.setCell ⟨g, 1, none⟩ (.int .i64 (x + n))).drew.drewN nq) (some g) := grown_below' (grown_drew (grown_set _ _ _ _)) (pw_below_drewN (Below.refl _ _) _)
 have hb2 : Below base w ((w2.setCell ⟨g, 1, none⟩ (.int .i64 (x + n))).drew.drewN nq) := HBL.out.trans (below_grown hgr HLE.out HT.out.lo)
 by_cases c : x + n ≤ t.size
 ·
  rw [if_pos c] at he
  rw [he, decide_eq_true c]
  refine ⟨rfl, hb2, fun t' e => ?_⟩
  have e' := e
  cases e
  exact ⟨_, _, HT.out.turn hgr (good_act H.out.good HM.out he) h1 rfl rfl⟩
 rw [if_neg c] at he
 rw [he, decide_eq_false c]
 exact ⟨rfl, hb2, fun t' e => by cases e⟩
theorem recall_none (w : World) (base g : Nat) (t : T) (rv kv : Value) (h : Tab w base g t rv kv) (hb : base ≤ w.heap.size) (r n : Int) (hm : mayF 10 r n = true) (hk : t.kept = []) :
    Calls Try.prog 105 #[.pointer (some ⟨g, 0, none⟩), .agg #[.int .i64 10, .int .i64 r, .int .i64 n]] w (Post base g w (act t 10 r n)) := by
 have e : act t 10 r n = none := by
  show (if t.kept = [] then none else _) = _
  rw [if_pos hk]
 have HE := am e
 have hk2 := h.kept
 rw [hk] at hk2
 obtain ⟨A, c, rfl⟩ := Kd.R_slice hk2
 have f1 := h.keptC
 have hg := blk_lt h.blk
 have H := am h
 have HB := am hb
 clear h hb hm hk e hk2
 go_enter Try.func105, Try.ntmps105
 go_wp2
 go_ret
 exact Post.false ((below_alloc (Below.refl w.heap.size w) _).mono HB.out) HE.out
set_option maxHeartbeats 1000000 in
theorem recall_some (w : World) (base g : Nat) (t : T) (rv kv : Value) (h : Tab w base g t rv kv) (hb : base ≤ w.heap.size) (r n : Int) (hm : mayF 10 r n = true) (m : Nat) (hk : t.kept.length = m + 1) (hmm : m ≤ 1000000) :
    Calls Try.prog 105 #[.pointer (some ⟨g, 0, none⟩), .agg #[.int .i64 10, .int .i64 r, .int .i64 n]] w (Post base g w (act t 10 r n)) := by
 have hne : t.kept ≠ [] := fun e => by rw [e] at hk; cases hk
 have e : act t 10 r n = some { t with now := (t.kept.getLastD []).set 0 (t.now.getD 0 0), kept := t.kept.dropLast } := by
  show (if t.kept = [] then none else _) = _
  rw [if_neg hne]
 have hgd := good_act h.good hm e
 obtain ⟨l, hl⟩ : ∃ l, t.kept.getLastD [] = l := ⟨_, rfl⟩
 have hl37 : l.length = 37 := by rw [← hl]; exact h.good.kept _ (getLastD_mem hne)
 have hK := h.kept
 obtain ⟨A, c, hkv⟩ := Kd.R_slice hK
 rw [hk] at hkv
 subst hkv
 have hrd := Kd.R_reads' hK
 obtain ⟨ad, rfl⟩ : ∃ ad, A = some ad := by
   obtain ⟨ad, e, _⟩ := hrd.2.2.2.2 (by omega)
   exact ⟨ad, e⟩
 obtain ⟨b, rfl⟩ := Kd.R_head hK
 obtain ⟨cs, hcl, hM, hcc, hcf⟩ := Kd.R_elem hK ([] : Row) (m : Int) (by omega) (by omega)
 have hlm : t.kept.getD (m : Int).toNat [] = l := by
  rw [Int.toNat_natCast, ← hl, List.getLastD_eq_getLast?, List.getLast?_eq_getElem?, hk, Nat.add_sub_cancel, List.getD_eq_getElem?_getD]
 rw [hlm] at hM
 obtain ⟨_, rfl⟩ := row_K (rowK.K_of_M hM)
 have hra : w.rangeAt b (m * 37) (nums .i64 l) := fun j v hv => by
   have := hcc j v hv
   rwa [Int.toNat_natCast] at this
 have hbg : b ≠ g := (hK.1 b rfl).1
 have hT := Kd.R_take (m := m) hK (by omega)
 have hdl : t.kept.take m = t.kept.dropLast := by rw [List.dropLast_eq_take, hk, Nat.add_sub_cancel]
 rw [hdl] at hT
 have hix : ∀ W : World, (Instr.indexAt 111 (.slice (some ⟨b, 0, none⟩) (m + 1) c) (.int .i64 (m : Int))).run Try.prog W = .ok (.pointer (some ⟨b, m * 37, none⟩)) W := fun W => by
   have h2 : Try.prog.elem 111 = 145 := by kernel_rfl
   have h3 : (sizeOf 145).run Try.prog W = .ok 37 W := by kernel_rfl
   rw [run_indexAt_slice (P := Try.prog) W _ _ _ _ _ _ (by rw [h2]; exact Try.underlying111), if_pos (by omega), h2, h3]
   simp only [Result.andThen, Int.toNat_natCast, Addr.add_mid, Nat.zero_add]
 have hsl : ∀ W : World, (Instr.slice 111 (.slice (some ⟨b, 0, none⟩) (m + 1) c) none (some (.int .i64 (m : Int))) none).run Try.prog W = .ok (.slice (some ⟨b, 0, none⟩) m c) W := fun W => by
   obtain ⟨i0, hi, _⟩ := Option.map_eq_some_iff.1 info145
   have := cut_to (P := Try.prog) 111 145 .i64 Try.underlying111 hi (some ⟨b, 0, none⟩) (m + 1) c (m : Int) (by omega) (by omega) hrd.2.1 W
   rwa [Int.toNat_natCast] at this
 have f1 := h.keptC
 have f3 := h.free 75
 have hg := blk_lt h.blk
 have hblt := Kd.R_lt hK b rfl
 have f5 : w.cell? ⟨g, 1, none⟩ = some (.int .i64 (t.now.getD 0 0)) := h.now 0 (by omega)
 obtain ⟨x, hx⟩ : ∃ x, t.now.getD 0 0 = x := ⟨_, rfl⟩
 rw [hx] at f5
 rw [hl, hx] at e
 have HX := am hx
 have HE := am e
 have HT := am hT
 have HBG := am hbg
 have HRA := am hra
 have HGD := am hgd
 have hgd2 : Good { t with now := l.set 0 x, kept := t.kept.dropLast } := by rw [← hl, ← hx]; exact hgd
 have HGD2 := am hgd2
 clear hgd2
 have HL37 := am hl37
 have H := am h
 have HB := am hb
 have HMM := am hmm
 have hmw : IntKind.i64.wrap (m : Int) = m := by rw [IntKind.wrap_i64]; omega
 have HL := am hl
 clear h hb hm hk hmm hne e hgd hl hK hrd hcl hM hcc hcf hlm hra hbg hT hdl hx hl37 HL
 go_enter Try.func105, Try.ntmps105
 go_wp2
 refine start_ (n := 14) (S := fun u => u.cell? ⟨g, 75, none⟩ = some (.slice (some ⟨b, 0, none⟩) (m + 1) c) ∧ Aside0 (u.rangeAt b (m * 37) (nums .i64 l))) (ds := [13]) (bm 14 0) (by kernel_rfl) rfl rfl ?_ (fun hHeld => ?_)
 case refine_1 => exact ⟨by go_simp, ⟨(World.rangeAt_drew _ _ _ _).2 (World.rangeAt_alloc HRA.out _)⟩⟩
 refine pure_ (i := 0) (N := some 12) (v := ?_) (a' := ?_) (bm 14 1) rfl rfl (by kernel_rfl) (fun _ _ _ h => h) (Or.inl ⟨by rfl, ?_⟩) ?_ ?_
 rotate_left
 ·
  intro u
  go_simp
  with_reducible rfl
 rotate_left
 ·
  simp only [pz]
  rfl
 refine pure_ (i := 1) (N := some 13) (v := ?_) (a' := ?_) (bm 14 3) rfl rfl (by kernel_rfl) (fun _ _ _ h => h) (Or.inl ⟨by rfl, ?_⟩) ?_ ?_
 rotate_left
 ·
  intro u
  go_simp
  with_reducible rfl
 rotate_left
 ·
  simp only [pz]
  rfl
 refine pure_ (i := 2) (N := some 14) (v := ?_) (a' := ?_) (bm 14 7) rfl rfl (by kernel_rfl) (fun _ _ _ h => h) (Or.inl ⟨by rfl, ?_⟩) ?_ ?_
 rotate_left
 ·
  intro u
  go_simp
  with_reducible rfl
 rotate_left
 ·
  simp only [pz]
  rfl
 refine take_ (i := 3) (N := some 15) (v := ?_) (a' := ?_) (bm 14 15) rfl rfl (by kernel_rfl) (fun _ _ _ h => h) (Or.inl ⟨by rfl, ?_⟩) hHeld ?_ ?_
 rotate_left
 ·
  rintro u ⟨s0, s1⟩
  go_simp
  with_reducible rfl
 rotate_left
 ·
  simp only [pz]
  rfl
 refine pure_ (i := 4) (N := some 16) (v := ?_) (a' := ?_) (bm 14 31) rfl rfl (by kernel_rfl) (fun _ _ _ h => h) (Or.inl ⟨by rfl, ?_⟩) ?_ ?_
 rotate_left
 ·
  intro u
  go_simp
  with_reducible rfl
 rotate_left
 ·
  simp only [pz]
  rfl
 refine pure_ (i := 5) (N := some 17) (v := ?_) (a' := ?_) (bm 14 63) rfl rfl (by kernel_rfl) (fun _ _ _ h => h) (Or.inl ⟨by rfl, ?_⟩) ?_ ?_
 rotate_left
 ·
  intro u
  go_simp
  with_reducible rfl
 rotate_left
 ·
  simp only [pz]
  rfl
 refine pure_ (i := 6) (N := some 18) (v := ?_) (a' := ?_) (bm 14 127) rfl rfl (by kernel_rfl) (fun _ _ _ h => h) (Or.inl ⟨by rfl, ?_⟩) ?_ ?_
 rotate_left
 ·
  intro u
  go_simp
  with_reducible rfl
 rotate_left
 ·
  simp only [pz]
  rfl
 refine take_ (i := 7) (N := some 19) (v := ?_) (a' := ?_) (bm 14 255) rfl rfl (by kernel_rfl) (fun _ _ _ h => h) (Or.inl ⟨by rfl, ?_⟩) hHeld ?_ ?_
 rotate_left
 ·
  rintro u ⟨s0, s1⟩
  go_simp
  with_reducible rfl
 rotate_left
 ·
  simp only [pz]
  rfl
 refine pure_ (i := 8) (N := some 20) (v := ?_) (a' := ?_) (bm 14 511) rfl rfl (by kernel_rfl) (fun _ _ _ h => h) (Or.inl ⟨by rfl, ?_⟩) ?_ ?_
 rotate_left
 ·
  intro u
  go_simp
  with_reducible rfl
 rotate_left
 ·
  simp only [pz]
  rfl
 refine pure_ (i := 9) (N := some 21) (v := ?_) (a' := ?_) (bm 14 1023) rfl rfl (by kernel_rfl) (fun _ _ _ h => h) (Or.inl ⟨by rfl, ?_⟩) ?_ ?_
 rotate_left
 ·
  intro u
  go_simp
  with_reducible rfl
 rotate_left
 ·
  simp only [pz]
  rfl
 refine pure_ (i := 10) (N := some 22) (v := ?_) (a' := ?_) (bm 14 2047) rfl rfl (by kernel_rfl) (fun _ _ _ h => h) (Or.inl ⟨by rfl, ?_⟩) ?_ ?_
 rotate_left
 ·
  intro u
  go_simp
  with_reducible rfl
 rotate_left
 ·
  simp only [pz]
  rfl
 refine take_ (i := 11) (N := some 23) (v := .agg (nums .i64 l).toArray) (a' := ?_) (bm 14 4095) rfl rfl (by kernel_rfl) (fun _ _ _ h => h) (load_row_y (by rfl) (.tmp 22) rfl b (m * 37) rfl l HL37.out (fun u hu => hu.2.out)) hHeld ?_ ?_
 rotate_left
 ·
  simp only [pz]
  rfl
 refine one_ (i := 12) (N := some 5) (bm 14 8191) rfl rfl (by kernel_rfl) (by decide) (fun K hK => ?_)
 rw [if_pos (by rfl)]
 refine alloc_rowK rowTy rfl ?_
 refine hK.out _ _ ⟨by go_simp, ⟨World.rangeAt_alloc ((World.rangeAt_drew _ _ _ _).2 (World.rangeAt_alloc HRA.out _)) _⟩⟩ (fun hHeld => ?_)
 clear hK K
 refine norm_ (a' := ?_) ?_ ?_
 rotate_left
 ·
  show Act.put _ (some 5) _ = _
  simp only [pz]
  rfl
 refine last_ (i := 13) (N := none) (bm 14 16383) rfl rfl (by kernel_rfl) (by decide) (fun K hK => ?_)
 rw [if_pos (by rfl)]
 have hBw := below_drew (below_alloc (Below.refl w.heap.size w) (.cells #[.int .i64 10, .int .i64 r, .int .i64 n] 105))
 generalize (w.alloc (Obj.cells #[Value.int .i64 10, .int .i64 r, .int .i64 n] 105)).drew = W at *
 obtain ⟨hb1, hb2⟩ := box_new (tr := 145) (w := W) (g := W.heap.size) rfl HL37.out
 refine store_rowK rowTy (.tmp 5) (.tmp 23) rfl W.heap.size 0 l HL37.out rfl rfl (there_of_blk (blk_new W _) (by rw [List.size_toArray, nums_length, zrow_len]; decide)) ?_
 generalize (W.alloc (.cells (nums .i64 zrow).toArray 145)).setCells W.heap.size 0 (nums .i64 l) = w3 at *
 have hB3 : Below w.heap.size w w3 := below_step hBw hb2
 have hgx : g ≠ W.heap.size := by have := hBw.size; omega
 refine hK.out _ _ ?_
 clear hK K
 refine done_ (by kernel_rfl) ?_
 have HX0W := am (show w.heap.size ≤ W.heap.size from hBw.size)
 generalize W.heap.size = x0 at *
 have hxg : x0 ≠ g := fun e => hgx e.symm
 have hT3 := H.out.below hB3
 have HB3 := am hB3
 have HX0 := am hb1
 have d1 := hT3.keptC
 have d2 := hT3.free 75
 have HT3 := am hT3
 have HK3 := am (Kd.R_below HT.out hB3)
 have d3 : w3.cell? ⟨g, 1, none⟩ = some (.int .i64 x) := by rw [← HX.out]; exact hT3.now 0 (by omega)
 have d4 : w3.cell? ⟨x0, 0, none⟩ = some (.int .i64 (l.getD 0 0)) := by rw [blk_cell hb1, List.getElem?_toArray]; exact nums_get (by rw [HL37.out]; decide)
 have d5 : w3.frozen? ⟨x0, 0, none⟩ = false := blk_frozen hb1 0
 have hxg : x0 ≠ g := fun e => hgx e.symm
 have hgk : Good { t with kept := t.kept.dropLast } := ⟨hT3.good.now, hT3.good.first, hT3.good.rows, fun q hq => hT3.good.kept q (List.dropLast_subset _ hq), hT3.good.at0, hT3.good.size, hT3.good.atS⟩
 have HGK := am hgk
 have g1 := set_kept hT3.blk hT3.good (.slice (some ⟨b, 0, none⟩) m c) t.kept.dropLast
 have g2 := blk_drew (blk_far g1 (p := ⟨x0, 0, none⟩) hgx (.int .i64 x))
 have x1 : ((w3.setCell ⟨g, 75, none⟩ (.slice (some ⟨b, 0, none⟩) m c)).setCell ⟨x0, 0, none⟩ (.int .i64 x)).drew.heap[x0]? = some (.cells (nums .i64 (l.set 0 x)).toArray 145 (0, 0)) :=
   blk_drew (blk_put (blk_far hb1 (p := ⟨g, 75, none⟩) hxg _) 0 _ (by rw [List.setIfInBounds_toArray, nums, nums, List.map_set]))
 have HC := am (range_of_blk x1)
 have HTH := am (there_of_blk (o := 1) (n := 37) g2 (by rw [List.size_toArray, cells_len hgk]; decide))
 have HG2 := am g2
 have HLS := am (show (l.set 0 x).length = 37 by rw [List.length_set]; exact HL37.out)
 clear hB3 hb1 hb2 hBw hT3 hHeld f1 f3 f5 HRA g1 g2 x1 hgk
 go_wp2
 refine still_tail 14 (by kernel_rfl) (by kernel_rfl) ?_
 simp only [List.take_succ_cons, List.take_zero, List.drop_succ_cons, List.drop_zero]
 repeat still_step
 refine wpStill_nil ?_
 go_wp2_with (first
   | (refine load_rowW rowTy rfl (.tmp 5) rfl x0 0 rfl (l.set 0 x) HLS.out HC.out ?_)
   | (refine store_rowW rowTy rfl (.tmp 47) (.tmp 45) rfl g 1 (l.set 0 x) HLS.out rfl rfl HTH.out ?_))
 go_ret
 have e := HE.out
 rw [e]
 have hb3 := HB3.out
 have hx0 : w.heap.size ≤ x0 := HX0W.out
 have hbel : Below base w (((w3.setCell ⟨g, 75, none⟩ (.slice (some ⟨b, 0, none⟩) m c)).setCell ⟨x0, 0, none⟩ (.int .i64 x)).drew.setCells g 1 (nums .i64 (l.set 0 x))) := by
  have h1 : Below base w ((w3.setCell ⟨g, 75, none⟩ (.slice (some ⟨b, 0, none⟩) m c)).setCell ⟨x0, 0, none⟩ (.int .i64 x)).drew :=
    below_drew (((hb3.mono HB.out).setCell H.out.lo _).setCell (Nat.le_trans HB.out hx0) _)
  exact h1.trans (below_grown (grown_setCells _ _ _ _) (Nat.le_trans HB.out h1.size) H.out.lo)
 refine ⟨rfl, hbel, fun t' e2 => ?_⟩
 cases e2
 have hmv : ∀ k, k ≠ g → k < w.heap.size → (((w3.setCell ⟨g, 75, none⟩ (.slice (some ⟨b, 0, none⟩) m c)).setCell ⟨x0, 0, none⟩ (.int .i64 x)).drew.setCells g 1 (nums .i64 (l.set 0 x))).heap[k]? = w.heap[k]? := fun k hk hlt => by
   rw [setCells_far _ _ _ hk]
   show ((w3.setCell ⟨g, 75, none⟩ _).setCell ⟨x0, 0, none⟩ _).heap[k]? = _
   rw [Below.heap_setCell _ _ _ _ (show k ≠ x0 by omega), Below.heap_setCell _ _ _ _ (show k ≠ g from hk)]
   exact hb3.block k hlt
 refine ⟨_, _, HGD2.out, H.out.lo, set_nowAll HG2.out HGK.out _ HLS.out, ?_, ?_⟩
 ·
  exact Kd.R_step H.out.rows (fun k hk hlt => hmv k hk.1 hlt)
 exact Kd.R_step HT.out (fun k hk hlt => hmv k hk.1 hlt)
theorem recall_calls (w : World) (base g : Nat) (t : T) (rv kv : Value) (h : Tab w base g t rv kv) (hb : base ≤ w.heap.size) (r n : Int) (hm : mayF 10 r n = true) (hk : t.kept.length ≤ 1000000) :
    Calls Try.prog 105 #[.pointer (some ⟨g, 0, none⟩), .agg #[.int .i64 10, .int .i64 r, .int .i64 n]] w (Post base g w (act t 10 r n)) := by
 rcases Nat.eq_zero_or_pos t.kept.length with h0 | h0
 ·
  exact recall_none w base g t rv kv h hb r n hm (List.eq_nil_of_length_eq_zero h0)
 obtain ⟨m, e⟩ : ∃ m, t.kept.length = m + 1 := ⟨t.kept.length - 1, by omega⟩
 exact recall_some w base g t rv kv h hb r n hm m e (by omega)
def waysV : Array Value := #[.func (.func 95) #[] #[], .func (.func 96) #[] #[], .func (.func 97) #[] #[], .func (.func 98) #[] #[], .func (.func 99) #[] #[], .func (.func 100) #[] #[],
  .func (.func 101) #[] #[], .func (.func 102) #[] #[], .func (.func 103) #[] #[], .func (.func 104) #[] #[], .func (.func 105) #[] #[]]
theorem ways_calls (w : World) : Calls Try.prog 93 #[] w fun e w' => e = .returned (.agg waysV) ∧ Below w.heap.size w w' := by
 go_enter Try.func93, Try.ntmps93
 go_wp2
 exact bodyPost_ret (v := .agg waysV) (results_single rfl (.cell w.heap.size 166 waysV (0, 0) _ rfl (blk_new w _) Try.underlying166 rfl (by kernel_rfl) .nil)) rfl ⟨rfl, below_alloc (Below.refl _ _) _⟩
theorem do_0 (w : World) (base g : Nat) (t : T) (rv kv : Value) (h : Tab w base g t rv kv) (hb : base ≤ w.heap.size) (r n : Int) (hm : mayF 0 r n = true) (hl : t.rows.length ≤ 1000000 ∧ t.kept.length ≤ 1000000 ∧ 0 ≤ t.size) :
    Calls Try.prog 85 #[.pointer (some ⟨g, 0, none⟩), .agg #[.int .i64 0, .int .i64 r, .int .i64 n]] w (Post base g w (act t 0 r n)) := by
 obtain ⟨R, hR⟩ : ∃ R, act t 0 r n = R := ⟨_, rfl⟩
 rw [hR]
 have HR := am hR
 have HL := am hl
 clear hR hl
 have H := am h
 have HM := am hm
 have HB := am hb
 have HB0 := am (Below.refl w.heap.size w)
 clear h hb hm
 go_enter Try.func85, Try.ntmps85
 go_wp2_with fail
 refine (cfa_Op_may.calls 0 r n true _ (by unfold cfa_Op_may.f; rw [HM.out])).mono ?_
 rintro e w1 ⟨rfl, hb1⟩
 have hbx := blk_below (blk_new w (.cells #[.int .i64 0, .int .i64 r, .int .i64 n] 105)) hb1
 have hB1 := below_step (below_alloc (Below.refl w.heap.size w) (.cells #[.int .i64 0, .int .i64 r, .int .i64 n] 105)) hb1
 have h1 := H.out.below hB1
 have c1 := h1.begun
 have c2 : w1.cell? ⟨w.heap.size, 0, none⟩ = some (.int .i64 0) := by rw [blk_cell hbx]; rfl
 have H1 := am h1
 have HBX := am hbx
 have HB1 := am hB1
 clear hb1 hbx hB1 h1
 cases hbg : t.begun <;> rw [hbg] at c1 <;> clear hbg
 all_goals
   go_wp2_with fail
   refine (ways_calls _).mono ?_
   rintro e w2 ⟨rfl, hb2⟩
   have h2 := H1.out.below hb2
   have hbx := blk_below HBX.out hb2
   have hB2 := below_step HB1.out hb2
   have d0 : w2.cell? ⟨w.heap.size, 0, none⟩ = some (.int .i64 0) := by rw [blk_cell hbx]; rfl
   have d1 : w2.cell? ⟨w.heap.size, 1, none⟩ = some (.int .i64 r) := by rw [blk_cell hbx]; rfl
   have d2 : w2.cell? ⟨w.heap.size, 2, none⟩ = some (.int .i64 n) := by rw [blk_cell hbx]; rfl
   have hlt : w.heap.size < w2.heap.size := blk_lt hbx
   have H2 := am h2
   have HB2 := am hB2
   clear hbx h2 hB2 hb2 c1 c2
   unfold waysV
   go_wp2
   refine still_tail 6 (by kernel_rfl) (by kernel_rfl) ?_
   simp only [List.take_succ_cons, List.take_zero, List.drop_succ_cons, List.drop_zero]
   repeat still_step
   refine wpStill_nil ?_
   go_wp2_with fail
   have hc := nop_calls _ base g t rv kv (H2.out.below (below_drew (below_alloc (Below.refl _ _) (.cells waysV 166)))) (by have := HB.out; have := HB2.out.size; simp; omega) r n HM.out
   rw [HR.out] at hc
   refine hc.mono ?_
   rintro e w3 ⟨rfl, hb3, hp⟩
   go_wp2
   go_ret
   exact ⟨rfl, ((below_drew (below_alloc HB2.out _)).mono HB.out).trans hb3, hp⟩
theorem do_1 (w : World) (base g : Nat) (t : T) (rv kv : Value) (h : Tab w base g t rv kv) (hb : base ≤ w.heap.size) (r n : Int) (hm : mayF 1 r n = true) (hl : t.rows.length ≤ 1000000 ∧ t.kept.length ≤ 1000000 ∧ 0 ≤ t.size) (hbg : t.begun = true) :
    Calls Try.prog 85 #[.pointer (some ⟨g, 0, none⟩), .agg #[.int .i64 1, .int .i64 r, .int .i64 n]] w (Post base g w (act t 1 r n)) := by
 obtain ⟨R, hR⟩ : ∃ R, act t 1 r n = R := ⟨_, rfl⟩
 rw [hR]
 have HR := am hR
 have HL := am hl
 clear hR hl
 have H := am h
 have HM := am hm
 have HB := am hb
 have HB0 := am (Below.refl w.heap.size w)
 clear h hb hm
 go_enter Try.func85, Try.ntmps85
 go_wp2_with fail
 refine (cfa_Op_may.calls 1 r n true _ (by unfold cfa_Op_may.f; rw [HM.out])).mono ?_
 rintro e w1 ⟨rfl, hb1⟩
 have hbx := blk_below (blk_new w (.cells #[.int .i64 1, .int .i64 r, .int .i64 n] 105)) hb1
 have hB1 := below_step (below_alloc (Below.refl w.heap.size w) (.cells #[.int .i64 1, .int .i64 r, .int .i64 n] 105)) hb1
 have h1 := H.out.below hB1
 have c1 := h1.begun
 have c2 : w1.cell? ⟨w.heap.size, 0, none⟩ = some (.int .i64 1) := by rw [blk_cell hbx]; rfl
 have H1 := am h1
 have HBX := am hbx
 have HB1 := am hB1
 clear hb1 hbx hB1 h1
 rw [hbg] at c1
 clear hbg
 all_goals
   go_wp2_with fail
   refine (ways_calls _).mono ?_
   rintro e w2 ⟨rfl, hb2⟩
   have h2 := H1.out.below hb2
   have hbx := blk_below HBX.out hb2
   have hB2 := below_step HB1.out hb2
   have d0 : w2.cell? ⟨w.heap.size, 0, none⟩ = some (.int .i64 1) := by rw [blk_cell hbx]; rfl
   have d1 : w2.cell? ⟨w.heap.size, 1, none⟩ = some (.int .i64 r) := by rw [blk_cell hbx]; rfl
   have d2 : w2.cell? ⟨w.heap.size, 2, none⟩ = some (.int .i64 n) := by rw [blk_cell hbx]; rfl
   have hlt : w.heap.size < w2.heap.size := blk_lt hbx
   have H2 := am h2
   have HB2 := am hB2
   clear hbx h2 hB2 hb2 c1 c2
   unfold waysV
   go_wp2
   refine still_tail 6 (by kernel_rfl) (by kernel_rfl) ?_
   simp only [List.take_succ_cons, List.take_zero, List.drop_succ_cons, List.drop_zero]
   repeat still_step
   refine wpStill_nil ?_
   go_wp2_with fail
   have hc := advance_calls _ base g t rv kv (H2.out.below (below_drew (below_alloc (Below.refl _ _) (.cells waysV 166)))) (by have := HB.out; have := HB2.out.size; simp; omega) r n HM.out HL.out.1 HL.out.2.2
   rw [HR.out] at hc
   refine hc.mono ?_
   rintro e w3 ⟨rfl, hb3, hp⟩
   go_wp2
   go_ret
   exact ⟨rfl, ((below_drew (below_alloc HB2.out _)).mono HB.out).trans hb3, hp⟩
theorem do_2 (w : World) (base g : Nat) (t : T) (rv kv : Value) (h : Tab w base g t rv kv) (hb : base ≤ w.heap.size) (r n : Int) (hm : mayF 2 r n = true) (hl : t.rows.length ≤ 1000000 ∧ t.kept.length ≤ 1000000 ∧ 0 ≤ t.size) :
    Calls Try.prog 85 #[.pointer (some ⟨g, 0, none⟩), .agg #[.int .i64 2, .int .i64 r, .int .i64 n]] w (Post base g w (act t 2 r n)) := by
 obtain ⟨R, hR⟩ : ∃ R, act t 2 r n = R := ⟨_, rfl⟩
 rw [hR]
 have HR := am hR
 have HL := am hl
 clear hR hl
 have H := am h
 have HM := am hm
 have HB := am hb
 have HB0 := am (Below.refl w.heap.size w)
 clear h hb hm
 go_enter Try.func85, Try.ntmps85
 go_wp2_with fail
 refine (cfa_Op_may.calls 2 r n true _ (by unfold cfa_Op_may.f; rw [HM.out])).mono ?_
 rintro e w1 ⟨rfl, hb1⟩
 have hbx := blk_below (blk_new w (.cells #[.int .i64 2, .int .i64 r, .int .i64 n] 105)) hb1
 have hB1 := below_step (below_alloc (Below.refl w.heap.size w) (.cells #[.int .i64 2, .int .i64 r, .int .i64 n] 105)) hb1
 have h1 := H.out.below hB1
 have c1 := h1.begun
 have c2 : w1.cell? ⟨w.heap.size, 0, none⟩ = some (.int .i64 2) := by rw [blk_cell hbx]; rfl
 have H1 := am h1
 have HBX := am hbx
 have HB1 := am hB1
 clear hb1 hbx hB1 h1
 cases hbg : t.begun <;> rw [hbg] at c1 <;> clear hbg
 all_goals
   go_wp2_with fail
   refine (ways_calls _).mono ?_
   rintro e w2 ⟨rfl, hb2⟩
   have h2 := H1.out.below hb2
   have hbx := blk_below HBX.out hb2
   have hB2 := below_step HB1.out hb2
   have d0 : w2.cell? ⟨w.heap.size, 0, none⟩ = some (.int .i64 2) := by rw [blk_cell hbx]; rfl
   have d1 : w2.cell? ⟨w.heap.size, 1, none⟩ = some (.int .i64 r) := by rw [blk_cell hbx]; rfl
   have d2 : w2.cell? ⟨w.heap.size, 2, none⟩ = some (.int .i64 n) := by rw [blk_cell hbx]; rfl
   have hlt : w.heap.size < w2.heap.size := blk_lt hbx
   have H2 := am h2
   have HB2 := am hB2
   clear hbx h2 hB2 hb2 c1 c2
   unfold waysV
   go_wp2
   refine still_tail 6 (by kernel_rfl) (by kernel_rfl) ?_
   simp only [List.take_succ_cons, List.take_zero, List.drop_succ_cons, List.drop_zero]
   repeat still_step
   refine wpStill_nil ?_
   go_wp2_with fail
   have hc := defCfa_calls _ base g t rv kv (H2.out.below (below_drew (below_alloc (Below.refl _ _) (.cells waysV 166)))) (by have := HB.out; have := HB2.out.size; simp; omega) r n HM.out
   rw [HR.out] at hc
   refine hc.mono ?_
   rintro e w3 ⟨rfl, hb3, hp⟩
   go_wp2
   go_ret
   exact ⟨rfl, ((below_drew (below_alloc HB2.out _)).mono HB.out).trans hb3, hp⟩
theorem do_3 (w : World) (base g : Nat) (t : T) (rv kv : Value) (h : Tab w base g t rv kv) (hb : base ≤ w.heap.size) (r n : Int) (hm : mayF 3 r n = true) (hl : t.rows.length ≤ 1000000 ∧ t.kept.length ≤ 1000000 ∧ 0 ≤ t.size) :
    Calls Try.prog 85 #[.pointer (some ⟨g, 0, none⟩), .agg #[.int .i64 3, .int .i64 r, .int .i64 n]] w (Post base g w (act t 3 r n)) := by
 obtain ⟨R, hR⟩ : ∃ R, act t 3 r n = R := ⟨_, rfl⟩
 rw [hR]
 have HR := am hR
 have HL := am hl
 clear hR hl
 have H := am h
 have HM := am hm
 have HB := am hb
 have HB0 := am (Below.refl w.heap.size w)
 clear h hb hm
 go_enter Try.func85, Try.ntmps85
 go_wp2_with fail
 refine (cfa_Op_may.calls 3 r n true _ (by unfold cfa_Op_may.f; rw [HM.out])).mono ?_
 rintro e w1 ⟨rfl, hb1⟩
 have hbx := blk_below (blk_new w (.cells #[.int .i64 3, .int .i64 r, .int .i64 n] 105)) hb1
 have hB1 := below_step (below_alloc (Below.refl w.heap.size w) (.cells #[.int .i64 3, .int .i64 r, .int .i64 n] 105)) hb1
 have h1 := H.out.below hB1
 have c1 := h1.begun
 have c2 : w1.cell? ⟨w.heap.size, 0, none⟩ = some (.int .i64 3) := by rw [blk_cell hbx]; rfl
 have H1 := am h1
 have HBX := am hbx
 have HB1 := am hB1
 clear hb1 hbx hB1 h1
 cases hbg : t.begun <;> rw [hbg] at c1 <;> clear hbg
 all_goals
   go_wp2_with fail
   refine (ways_calls _).mono ?_
   rintro e w2 ⟨rfl, hb2⟩
   have h2 := H1.out.below hb2
   have hbx := blk_below HBX.out hb2
   have hB2 := below_step HB1.out hb2
   have d0 : w2.cell? ⟨w.heap.size, 0, none⟩ = some (.int .i64 3) := by rw [blk_cell hbx]; rfl
   have d1 : w2.cell? ⟨w.heap.size, 1, none⟩ = some (.int .i64 r) := by rw [blk_cell hbx]; rfl
   have d2 : w2.cell? ⟨w.heap.size, 2, none⟩ = some (.int .i64 n) := by rw [blk_cell hbx]; rfl
   have hlt : w.heap.size < w2.heap.size := blk_lt hbx
   have H2 := am h2
   have HB2 := am hB2
   clear hbx h2 hB2 hb2 c1 c2
   unfold waysV
   go_wp2
   refine still_tail 6 (by kernel_rfl) (by kernel_rfl) ?_
   simp only [List.take_succ_cons, List.take_zero, List.drop_succ_cons, List.drop_zero]
   repeat still_step
   refine wpStill_nil ?_
   go_wp2_with fail
   have hc := defOffset_calls _ base g t rv kv (H2.out.below (below_drew (below_alloc (Below.refl _ _) (.cells waysV 166)))) (by have := HB.out; have := HB2.out.size; simp; omega) r n HM.out
   rw [HR.out] at hc
   refine hc.mono ?_
   rintro e w3 ⟨rfl, hb3, hp⟩
   go_wp2
   go_ret
   exact ⟨rfl, ((below_drew (below_alloc HB2.out _)).mono HB.out).trans hb3, hp⟩
theorem do_4 (w : World) (base g : Nat) (t : T) (rv kv : Value) (h : Tab w base g t rv kv) (hb : base ≤ w.heap.size) (r n : Int) (hm : mayF 4 r n = true) (hl : t.rows.length ≤ 1000000 ∧ t.kept.length ≤ 1000000 ∧ 0 ≤ t.size) :
    Calls Try.prog 85 #[.pointer (some ⟨g, 0, none⟩), .agg #[.int .i64 4, .int .i64 r, .int .i64 n]] w (Post base g w (act t 4 r n)) := by
 obtain ⟨R, hR⟩ : ∃ R, act t 4 r n = R := ⟨_, rfl⟩
 rw [hR]
 have HR := am hR
 have HL := am hl
 clear hR hl
 have H := am h
 have HM := am hm
 have HB := am hb
 have HB0 := am (Below.refl w.heap.size w)
 clear h hb hm
 go_enter Try.func85, Try.ntmps85
 go_wp2_with fail
 refine (cfa_Op_may.calls 4 r n true _ (by unfold cfa_Op_may.f; rw [HM.out])).mono ?_
 rintro e w1 ⟨rfl, hb1⟩
 have hbx := blk_below (blk_new w (.cells #[.int .i64 4, .int .i64 r, .int .i64 n] 105)) hb1
 have hB1 := below_step (below_alloc (Below.refl w.heap.size w) (.cells #[.int .i64 4, .int .i64 r, .int .i64 n] 105)) hb1
 have h1 := H.out.below hB1
 have c1 := h1.begun
 have c2 : w1.cell? ⟨w.heap.size, 0, none⟩ = some (.int .i64 4) := by rw [blk_cell hbx]; rfl
 have H1 := am h1
 have HBX := am hbx
 have HB1 := am hB1
 clear hb1 hbx hB1 h1
 cases hbg : t.begun <;> rw [hbg] at c1 <;> clear hbg
 all_goals
   go_wp2_with fail
   refine (ways_calls _).mono ?_
   rintro e w2 ⟨rfl, hb2⟩
   have h2 := H1.out.below hb2
   have hbx := blk_below HBX.out hb2
   have hB2 := below_step HB1.out hb2
   have d0 : w2.cell? ⟨w.heap.size, 0, none⟩ = some (.int .i64 4) := by rw [blk_cell hbx]; rfl
   have d1 : w2.cell? ⟨w.heap.size, 1, none⟩ = some (.int .i64 r) := by rw [blk_cell hbx]; rfl
   have d2 : w2.cell? ⟨w.heap.size, 2, none⟩ = some (.int .i64 n) := by rw [blk_cell hbx]; rfl
   have hlt : w.heap.size < w2.heap.size := blk_lt hbx
   have H2 := am h2
   have HB2 := am hB2
   clear hbx h2 hB2 hb2 c1 c2
   unfold waysV
   go_wp2
   refine still_tail 6 (by kernel_rfl) (by kernel_rfl) ?_
   simp only [List.take_succ_cons, List.take_zero, List.drop_succ_cons, List.drop_zero]
   repeat still_step
   refine wpStill_nil ?_
   go_wp2_with fail
   have hc := defRegister_calls _ base g t rv kv (H2.out.below (below_drew (below_alloc (Below.refl _ _) (.cells waysV 166)))) (by have := HB.out; have := HB2.out.size; simp; omega) r n HM.out
   rw [HR.out] at hc
   refine hc.mono ?_
   rintro e w3 ⟨rfl, hb3, hp⟩
   go_wp2
   go_ret
   exact ⟨rfl, ((below_drew (below_alloc HB2.out _)).mono HB.out).trans hb3, hp⟩
theorem do_5 (w : World) (base g : Nat) (t : T) (rv kv : Value) (h : Tab w base g t rv kv) (hb : base ≤ w.heap.size) (r n : Int) (hm : mayF 5 r n = true) (hl : t.rows.length ≤ 1000000 ∧ t.kept.length ≤ 1000000 ∧ 0 ≤ t.size) :
    Calls Try.prog 85 #[.pointer (some ⟨g, 0, none⟩), .agg #[.int .i64 5, .int .i64 r, .int .i64 n]] w (Post base g w (act t 5 r n)) := by
 obtain ⟨R, hR⟩ : ∃ R, act t 5 r n = R := ⟨_, rfl⟩
 rw [hR]
 have HR := am hR
 have HL := am hl
 clear hR hl
 have H := am h
 have HM := am hm
 have HB := am hb
 have HB0 := am (Below.refl w.heap.size w)
 clear h hb hm
 go_enter Try.func85, Try.ntmps85
 go_wp2_with fail
 refine (cfa_Op_may.calls 5 r n true _ (by unfold cfa_Op_may.f; rw [HM.out])).mono ?_
 rintro e w1 ⟨rfl, hb1⟩
 have hbx := blk_below (blk_new w (.cells #[.int .i64 5, .int .i64 r, .int .i64 n] 105)) hb1
 have hB1 := below_step (below_alloc (Below.refl w.heap.size w) (.cells #[.int .i64 5, .int .i64 r, .int .i64 n] 105)) hb1
 have h1 := H.out.below hB1
 have c1 := h1.begun
 have c2 : w1.cell? ⟨w.heap.size, 0, none⟩ = some (.int .i64 5) := by rw [blk_cell hbx]; rfl
 have H1 := am h1
 have HBX := am hbx
 have HB1 := am hB1
 clear hb1 hbx hB1 h1
 cases hbg : t.begun <;> rw [hbg] at c1 <;> clear hbg
 all_goals
   go_wp2_with fail
   refine (ways_calls _).mono ?_
   rintro e w2 ⟨rfl, hb2⟩
   have h2 := H1.out.below hb2
   have hbx := blk_below HBX.out hb2
   have hB2 := below_step HB1.out hb2
   have d0 : w2.cell? ⟨w.heap.size, 0, none⟩ = some (.int .i64 5) := by rw [blk_cell hbx]; rfl
   have d1 : w2.cell? ⟨w.heap.size, 1, none⟩ = some (.int .i64 r) := by rw [blk_cell hbx]; rfl
   have d2 : w2.cell? ⟨w.heap.size, 2, none⟩ = some (.int .i64 n) := by rw [blk_cell hbx]; rfl
   have hlt : w.heap.size < w2.heap.size := blk_lt hbx
   have H2 := am h2
   have HB2 := am hB2
   clear hbx h2 hB2 hb2 c1 c2
   unfold waysV
   go_wp2
   refine still_tail 6 (by kernel_rfl) (by kernel_rfl) ?_
   simp only [List.take_succ_cons, List.take_zero, List.drop_succ_cons, List.drop_zero]
   repeat still_step
   refine wpStill_nil ?_
   go_wp2_with fail
   have hc := offset_calls _ base g t rv kv (H2.out.below (below_drew (below_alloc (Below.refl _ _) (.cells waysV 166)))) (by have := HB.out; have := HB2.out.size; simp; omega) r n HM.out
   rw [HR.out] at hc
   refine hc.mono ?_
   rintro e w3 ⟨rfl, hb3, hp⟩
   go_wp2
   go_ret
   exact ⟨rfl, ((below_drew (below_alloc HB2.out _)).mono HB.out).trans hb3, hp⟩
theorem do_6 (w : World) (base g : Nat) (t : T) (rv kv : Value) (h : Tab w base g t rv kv) (hb : base ≤ w.heap.size) (r n : Int) (hm : mayF 6 r n = true) (hl : t.rows.length ≤ 1000000 ∧ t.kept.length ≤ 1000000 ∧ 0 ≤ t.size) (hbg : t.begun = true) :
    Calls Try.prog 85 #[.pointer (some ⟨g, 0, none⟩), .agg #[.int .i64 6, .int .i64 r, .int .i64 n]] w (Post base g w (act t 6 r n)) := by
 obtain ⟨R, hR⟩ : ∃ R, act t 6 r n = R := ⟨_, rfl⟩
 rw [hR]
 have HR := am hR
 have HL := am hl
 clear hR hl
 have H := am h
 have HM := am hm
 have HB := am hb
 have HB0 := am (Below.refl w.heap.size w)
 clear h hb hm
 go_enter Try.func85, Try.ntmps85
 go_wp2_with fail
 refine (cfa_Op_may.calls 6 r n true _ (by unfold cfa_Op_may.f; rw [HM.out])).mono ?_
 rintro e w1 ⟨rfl, hb1⟩
 have hbx := blk_below (blk_new w (.cells #[.int .i64 6, .int .i64 r, .int .i64 n] 105)) hb1
 have hB1 := below_step (below_alloc (Below.refl w.heap.size w) (.cells #[.int .i64 6, .int .i64 r, .int .i64 n] 105)) hb1
 have h1 := H.out.below hB1
 have c1 := h1.begun
 have c2 : w1.cell? ⟨w.heap.size, 0, none⟩ = some (.int .i64 6) := by rw [blk_cell hbx]; rfl
 have H1 := am h1
 have HBX := am hbx
 have HB1 := am hB1
 clear hb1 hbx hB1 h1
 rw [hbg] at c1
 clear hbg
 all_goals
   go_wp2_with fail
   refine (ways_calls _).mono ?_
   rintro e w2 ⟨rfl, hb2⟩
   have h2 := H1.out.below hb2
   have hbx := blk_below HBX.out hb2
   have hB2 := below_step HB1.out hb2
   have d0 : w2.cell? ⟨w.heap.size, 0, none⟩ = some (.int .i64 6) := by rw [blk_cell hbx]; rfl
   have d1 : w2.cell? ⟨w.heap.size, 1, none⟩ = some (.int .i64 r) := by rw [blk_cell hbx]; rfl
   have d2 : w2.cell? ⟨w.heap.size, 2, none⟩ = some (.int .i64 n) := by rw [blk_cell hbx]; rfl
   have hlt : w.heap.size < w2.heap.size := blk_lt hbx
   have H2 := am h2
   have HB2 := am hB2
   clear hbx h2 hB2 hb2 c1 c2
   unfold waysV
   go_wp2
   refine still_tail 6 (by kernel_rfl) (by kernel_rfl) ?_
   simp only [List.take_succ_cons, List.take_zero, List.drop_succ_cons, List.drop_zero]
   repeat still_step
   refine wpStill_nil ?_
   go_wp2_with fail
   have hc := restore_calls _ base g t rv kv (H2.out.below (below_drew (below_alloc (Below.refl _ _) (.cells waysV 166)))) (by have := HB.out; have := HB2.out.size; simp; omega) r n HM.out
   rw [HR.out] at hc
   refine hc.mono ?_
   rintro e w3 ⟨rfl, hb3, hp⟩
   go_wp2
   go_ret
   exact ⟨rfl, ((below_drew (below_alloc HB2.out _)).mono HB.out).trans hb3, hp⟩
theorem do_7 (w : World) (base g : Nat) (t : T) (rv kv : Value) (h : Tab w base g t rv kv) (hb : base ≤ w.heap.size) (r n : Int) (hm : mayF 7 r n = true) (hl : t.rows.length ≤ 1000000 ∧ t.kept.length ≤ 1000000 ∧ 0 ≤ t.size) :
    Calls Try.prog 85 #[.pointer (some ⟨g, 0, none⟩), .agg #[.int .i64 7, .int .i64 r, .int .i64 n]] w (Post base g w (act t 7 r n)) := by
 obtain ⟨R, hR⟩ : ∃ R, act t 7 r n = R := ⟨_, rfl⟩
 rw [hR]
 have HR := am hR
 have HL := am hl
 clear hR hl
 have H := am h
 have HM := am hm
 have HB := am hb
 have HB0 := am (Below.refl w.heap.size w)
 clear h hb hm
 go_enter Try.func85, Try.ntmps85
 go_wp2_with fail
 refine (cfa_Op_may.calls 7 r n true _ (by unfold cfa_Op_may.f; rw [HM.out])).mono ?_
 rintro e w1 ⟨rfl, hb1⟩
 have hbx := blk_below (blk_new w (.cells #[.int .i64 7, .int .i64 r, .int .i64 n] 105)) hb1
 have hB1 := below_step (below_alloc (Below.refl w.heap.size w) (.cells #[.int .i64 7, .int .i64 r, .int .i64 n] 105)) hb1
 have h1 := H.out.below hB1
 have c1 := h1.begun
 have c2 : w1.cell? ⟨w.heap.size, 0, none⟩ = some (.int .i64 7) := by rw [blk_cell hbx]; rfl
 have H1 := am h1
 have HBX := am hbx
 have HB1 := am hB1
 clear hb1 hbx hB1 h1
 cases hbg : t.begun <;> rw [hbg] at c1 <;> clear hbg
 all_goals
   go_wp2_with fail
   refine (ways_calls _).mono ?_
   rintro e w2 ⟨rfl, hb2⟩
   have h2 := H1.out.below hb2
   have hbx := blk_below HBX.out hb2
   have hB2 := below_step HB1.out hb2
   have d0 : w2.cell? ⟨w.heap.size, 0, none⟩ = some (.int .i64 7) := by rw [blk_cell hbx]; rfl
   have d1 : w2.cell? ⟨w.heap.size, 1, none⟩ = some (.int .i64 r) := by rw [blk_cell hbx]; rfl
   have d2 : w2.cell? ⟨w.heap.size, 2, none⟩ = some (.int .i64 n) := by rw [blk_cell hbx]; rfl
   have hlt : w.heap.size < w2.heap.size := blk_lt hbx
   have H2 := am h2
   have HB2 := am hB2
   clear hbx h2 hB2 hb2 c1 c2
   unfold waysV
   go_wp2
   refine still_tail 6 (by kernel_rfl) (by kernel_rfl) ?_
   simp only [List.take_succ_cons, List.take_zero, List.drop_succ_cons, List.drop_zero]
   repeat still_step
   refine wpStill_nil ?_
   go_wp2_with fail
   have hc := undefined_calls _ base g t rv kv (H2.out.below (below_drew (below_alloc (Below.refl _ _) (.cells waysV 166)))) (by have := HB.out; have := HB2.out.size; simp; omega) r n HM.out
   rw [HR.out] at hc
   refine hc.mono ?_
   rintro e w3 ⟨rfl, hb3, hp⟩
   go_wp2
   go_ret
   exact ⟨rfl, ((below_drew (below_alloc HB2.out _)).mono HB.out).trans hb3, hp⟩
theorem do_8 (w : World) (base g : Nat) (t : T) (rv kv : Value) (h : Tab w base g t rv kv) (hb : base ≤ w.heap.size) (r n : Int) (hm : mayF 8 r n = true) (hl : t.rows.length ≤ 1000000 ∧ t.kept.length ≤ 1000000 ∧ 0 ≤ t.size) :
    Calls Try.prog 85 #[.pointer (some ⟨g, 0, none⟩), .agg #[.int .i64 8, .int .i64 r, .int .i64 n]] w (Post base g w (act t 8 r n)) := by
 obtain ⟨R, hR⟩ : ∃ R, act t 8 r n = R := ⟨_, rfl⟩
 rw [hR]
 have HR := am hR
 have HL := am hl
 clear hR hl
 have H := am h
 have HM := am hm
 have HB := am hb
 have HB0 := am (Below.refl w.heap.size w)
 clear h hb hm
 go_enter Try.func85, Try.ntmps85
 go_wp2_with fail
 refine (cfa_Op_may.calls 8 r n true _ (by unfold cfa_Op_may.f; rw [HM.out])).mono ?_
 rintro e w1 ⟨rfl, hb1⟩
 have hbx := blk_below (blk_new w (.cells #[.int .i64 8, .int .i64 r, .int .i64 n] 105)) hb1
 have hB1 := below_step (below_alloc (Below.refl w.heap.size w) (.cells #[.int .i64 8, .int .i64 r, .int .i64 n] 105)) hb1
 have h1 := H.out.below hB1
 have c1 := h1.begun
 have c2 : w1.cell? ⟨w.heap.size, 0, none⟩ = some (.int .i64 8) := by rw [blk_cell hbx]; rfl
 have H1 := am h1
 have HBX := am hbx
 have HB1 := am hB1
 clear hb1 hbx hB1 h1
 cases hbg : t.begun <;> rw [hbg] at c1 <;> clear hbg
 all_goals
   go_wp2_with fail
   refine (ways_calls _).mono ?_
   rintro e w2 ⟨rfl, hb2⟩
   have h2 := H1.out.below hb2
   have hbx := blk_below HBX.out hb2
   have hB2 := below_step HB1.out hb2
   have d0 : w2.cell? ⟨w.heap.size, 0, none⟩ = some (.int .i64 8) := by rw [blk_cell hbx]; rfl
   have d1 : w2.cell? ⟨w.heap.size, 1, none⟩ = some (.int .i64 r) := by rw [blk_cell hbx]; rfl
   have d2 : w2.cell? ⟨w.heap.size, 2, none⟩ = some (.int .i64 n) := by rw [blk_cell hbx]; rfl
   have hlt : w.heap.size < w2.heap.size := blk_lt hbx
   have H2 := am h2
   have HB2 := am hB2
   clear hbx h2 hB2 hb2 c1 c2
   unfold waysV
   go_wp2
   refine still_tail 6 (by kernel_rfl) (by kernel_rfl) ?_
   simp only [List.take_succ_cons, List.take_zero, List.drop_succ_cons, List.drop_zero]
   repeat still_step
   refine wpStill_nil ?_
   go_wp2_with fail
   have hc := sameValue_calls _ base g t rv kv (H2.out.below (below_drew (below_alloc (Below.refl _ _) (.cells waysV 166)))) (by have := HB.out; have := HB2.out.size; simp; omega) r n HM.out
   rw [HR.out] at hc
   refine hc.mono ?_
   rintro e w3 ⟨rfl, hb3, hp⟩
   go_wp2
   go_ret
   exact ⟨rfl, ((below_drew (below_alloc HB2.out _)).mono HB.out).trans hb3, hp⟩
theorem do_9 (w : World) (base g : Nat) (t : T) (rv kv : Value) (h : Tab w base g t rv kv) (hb : base ≤ w.heap.size) (r n : Int) (hm : mayF 9 r n = true) (hl : t.rows.length ≤ 1000000 ∧ t.kept.length ≤ 1000000 ∧ 0 ≤ t.size) (hbg : t.begun = true) :
    Calls Try.prog 85 #[.pointer (some ⟨g, 0, none⟩), .agg #[.int .i64 9, .int .i64 r, .int .i64 n]] w (Post base g w (act t 9 r n)) := by
 obtain ⟨R, hR⟩ : ∃ R, act t 9 r n = R := ⟨_, rfl⟩
 rw [hR]
 have HR := am hR
 have HL := am hl
 clear hR hl
 have H := am h
 have HM := am hm
 have HB := am hb
 have HB0 := am (Below.refl w.heap.size w)
 clear h hb hm
 go_enter Try.func85, Try.ntmps85
 go_wp2_with fail
 refine (cfa_Op_may.calls 9 r n true _ (by unfold cfa_Op_may.f; rw [HM.out])).mono ?_
 rintro e w1 ⟨rfl, hb1⟩
 have hbx := blk_below (blk_new w (.cells #[.int .i64 9, .int .i64 r, .int .i64 n] 105)) hb1
 have hB1 := below_step (below_alloc (Below.refl w.heap.size w) (.cells #[.int .i64 9, .int .i64 r, .int .i64 n] 105)) hb1
 have h1 := H.out.below hB1
 have c1 := h1.begun
 have c2 : w1.cell? ⟨w.heap.size, 0, none⟩ = some (.int .i64 9) := by rw [blk_cell hbx]; rfl
 have H1 := am h1
 have HBX := am hbx
 have HB1 := am hB1
 clear hb1 hbx hB1 h1
 rw [hbg] at c1
 clear hbg
 all_goals
   go_wp2_with fail
   refine (ways_calls _).mono ?_
   rintro e w2 ⟨rfl, hb2⟩
   have h2 := H1.out.below hb2
   have hbx := blk_below HBX.out hb2
   have hB2 := below_step HB1.out hb2
   have d0 : w2.cell? ⟨w.heap.size, 0, none⟩ = some (.int .i64 9) := by rw [blk_cell hbx]; rfl
   have d1 : w2.cell? ⟨w.heap.size, 1, none⟩ = some (.int .i64 r) := by rw [blk_cell hbx]; rfl
   have d2 : w2.cell? ⟨w.heap.size, 2, none⟩ = some (.int .i64 n) := by rw [blk_cell hbx]; rfl
   have hlt : w.heap.size < w2.heap.size := blk_lt hbx
   have H2 := am h2
   have HB2 := am hB2
   clear hbx h2 hB2 hb2 c1 c2
   unfold waysV
   go_wp2
   refine still_tail 6 (by kernel_rfl) (by kernel_rfl) ?_
   simp only [List.take_succ_cons, List.take_zero, List.drop_succ_cons, List.drop_zero]
   repeat still_step
   refine wpStill_nil ?_
   go_wp2_with fail
   have hc := remember_calls _ base g t rv kv (H2.out.below (below_drew (below_alloc (Below.refl _ _) (.cells waysV 166)))) (by have := HB.out; have := HB2.out.size; simp; omega) r n HM.out HL.out.2.1
   rw [HR.out] at hc
   refine hc.mono ?_
   rintro e w3 ⟨rfl, hb3, hp⟩
   go_wp2
   go_ret
   exact ⟨rfl, ((below_drew (below_alloc HB2.out _)).mono HB.out).trans hb3, hp⟩
theorem do_10 (w : World) (base g : Nat) (t : T) (rv kv : Value) (h : Tab w base g t rv kv) (hb : base ≤ w.heap.size) (r n : Int) (hm : mayF 10 r n = true) (hl : t.rows.length ≤ 1000000 ∧ t.kept.length ≤ 1000000 ∧ 0 ≤ t.size) (hbg : t.begun = true) :
    Calls Try.prog 85 #[.pointer (some ⟨g, 0, none⟩), .agg #[.int .i64 10, .int .i64 r, .int .i64 n]] w (Post base g w (act t 10 r n)) := by
 obtain ⟨R, hR⟩ : ∃ R, act t 10 r n = R := ⟨_, rfl⟩
 rw [hR]
 have HR := am hR
 have HL := am hl
 clear hR hl
 have H := am h
 have HM := am hm
 have HB := am hb
 have HB0 := am (Below.refl w.heap.size w)
 clear h hb hm
 go_enter Try.func85, Try.ntmps85
 go_wp2_with fail
 refine (cfa_Op_may.calls 10 r n true _ (by unfold cfa_Op_may.f; rw [HM.out])).mono ?_
 rintro e w1 ⟨rfl, hb1⟩
 have hbx := blk_below (blk_new w (.cells #[.int .i64 10, .int .i64 r, .int .i64 n] 105)) hb1
 have hB1 := below_step (below_alloc (Below.refl w.heap.size w) (.cells #[.int .i64 10, .int .i64 r, .int .i64 n] 105)) hb1
 have h1 := H.out.below hB1
 have c1 := h1.begun
 have c2 : w1.cell? ⟨w.heap.size, 0, none⟩ = some (.int .i64 10) := by rw [blk_cell hbx]; rfl
 have H1 := am h1
 have HBX := am hbx
 have HB1 := am hB1
 clear hb1 hbx hB1 h1
 rw [hbg] at c1
 clear hbg
 all_goals
   go_wp2_with fail
   refine (ways_calls _).mono ?_
   rintro e w2 ⟨rfl, hb2⟩
   have h2 := H1.out.below hb2
   have hbx := blk_below HBX.out hb2
   have hB2 := below_step HB1.out hb2
   have d0 : w2.cell? ⟨w.heap.size, 0, none⟩ = some (.int .i64 10) := by rw [blk_cell hbx]; rfl
   have d1 : w2.cell? ⟨w.heap.size, 1, none⟩ = some (.int .i64 r) := by rw [blk_cell hbx]; rfl
   have d2 : w2.cell? ⟨w.heap.size, 2, none⟩ = some (.int .i64 n) := by rw [blk_cell hbx]; rfl
   have hlt : w.heap.size < w2.heap.size := blk_lt hbx
   have H2 := am h2
   have HB2 := am hB2
   clear hbx h2 hB2 hb2 c1 c2
   unfold waysV
   go_wp2
   refine still_tail 6 (by kernel_rfl) (by kernel_rfl) ?_
   simp only [List.take_succ_cons, List.take_zero, List.drop_succ_cons, List.drop_zero]
   repeat still_step
   refine wpStill_nil ?_
   go_wp2_with fail
   have hc := recall_calls _ base g t rv kv (H2.out.below (below_drew (below_alloc (Below.refl _ _) (.cells waysV 166)))) (by have := HB.out; have := HB2.out.size; simp; omega) r n HM.out HL.out.2.1
   rw [HR.out] at hc
   refine hc.mono ?_
   rintro e w3 ⟨rfl, hb3, hp⟩
   go_wp2
   go_ret
   exact ⟨rfl, ((below_drew (below_alloc HB2.out _)).mono HB.out).trans hb3, hp⟩
theorem do_not (w : World) (base g : Nat) (t : T) (rv kv : Value) (h : Tab w base g t rv kv) (hb : base ≤ w.heap.size) (k r n : Int) (hm : mayF k r n = false) :
    Calls Try.prog 85 #[.pointer (some ⟨g, 0, none⟩), .agg #[.int .i64 k, .int .i64 r, .int .i64 n]] w fun e w' => e = .returned (.bool false) ∧ Below base w w' := by
 have HM := am hm
 have HB := am hb
 clear h hb hm
 go_enter Try.func85, Try.ntmps85
 go_wp2_with fail
 refine (cfa_Op_may.calls k r n false _ (by unfold cfa_Op_may.f; rw [HM.out])).mono ?_
 rintro e w1 ⟨rfl, hb1⟩
 go_wp2
 go_ret
 exact ⟨rfl, (below_step (below_alloc (Below.refl w.heap.size w) _) hb1).mono HB.out⟩
theorem do_early (w : World) (base g : Nat) (t : T) (rv kv : Value) (h : Tab w base g t rv kv) (hb : base ≤ w.heap.size) (k r n : Int) (hm : mayF k r n = true) (hbg : t.begun = false) (hk : k = 1 ∨ k = 9 ∨ k = 10 ∨ k = 6) :
    Calls Try.prog 85 #[.pointer (some ⟨g, 0, none⟩), .agg #[.int .i64 k, .int .i64 r, .int .i64 n]] w fun e w' => e = .returned (.bool false) ∧ Below base w w' := by
 have HM := am hm
 have HB := am hb
 have H := am h
 clear h hb hm
 rcases hk with rfl | rfl | rfl | rfl
 all_goals
   go_enter Try.func85, Try.ntmps85
   go_wp2_with fail
   refine (cfa_Op_may.calls _ r n true _ (by unfold cfa_Op_may.f; rw [HM.out])).mono ?_
   rintro e w1 ⟨rfl, hb1⟩
   have hbx := blk_below (blk_new w _) hb1
   have hB1 := below_step (below_alloc (Below.refl w.heap.size w) _) hb1
   have h1 := H.out.below hB1
   have c1 := h1.begun
   have c2 := blk_cell hbx 0
   simp only [List.getElem?_toArray, List.getElem?_cons_zero] at c2
   rw [hbg] at c1
   have HB1 := am (hB1.mono HB.out)
   clear hb1 hbx hB1 h1
   go_wp2
   go_ret
   exact ⟨rfl, HB1.out⟩
theorem do_calls (w : World) (base g : Nat) (t : T) (rv kv : Value) (h : Tab w base g t rv kv) (hb : base ≤ w.heap.size) (k r n : Int) (hl : t.rows.length ≤ 1000000 ∧ t.kept.length ≤ 1000000 ∧ 0 ≤ t.size) :
    Calls Try.prog 85 #[.pointer (some ⟨g, 0, none⟩), .agg #[.int .i64 k, .int .i64 r, .int .i64 n]] w (Post base g w (does t k r n)) := by
 unfold does
 by_cases hm : mayF k r n = false
 ·
  rw [if_pos hm]
  refine (do_not w base g t rv kv h hb k r n hm).mono ?_
  rintro e w' ⟨rfl, hbb⟩
  exact ⟨rfl, hbb, fun _ e => by cases e⟩
 rw [if_neg hm]
 have hm1 : mayF k r n = true := by simpa using hm
 by_cases hbg : t.begun = false ∧ (k = 1 ∨ k = 9 ∨ k = 10 ∨ k = 6)
 ·
  rw [if_pos hbg]
  refine (do_early w base g t rv kv h hb k r n hm1 hbg.1 hbg.2).mono ?_
  rintro e w' ⟨rfl, hbb⟩
  exact ⟨rfl, hbb, fun _ e => by cases e⟩
 rw [if_neg hbg]
 have hbt : (k = 1 ∨ k = 9 ∨ k = 10 ∨ k = 6) → t.begun = true := fun hk => by
   cases hb2 : t.begun with
   | true => rfl
   | false => exact absurd ⟨hb2, hk⟩ hbg
 have hk := may_k hm1
 obtain ⟨m, rfl⟩ := Int.eq_ofNat_of_zero_le hk.1
 match m, hk with
 | 0, _ => exact do_0 w base g t rv kv h hb r n hm1 hl
 | 1, _ => exact do_1 w base g t rv kv h hb r n hm1 hl (hbt (by simp))
 | 2, _ => exact do_2 w base g t rv kv h hb r n hm1 hl
 | 3, _ => exact do_3 w base g t rv kv h hb r n hm1 hl
 | 4, _ => exact do_4 w base g t rv kv h hb r n hm1 hl
 | 5, _ => exact do_5 w base g t rv kv h hb r n hm1 hl
 | 6, _ => exact do_6 w base g t rv kv h hb r n hm1 hl (hbt (by simp))
 | 7, _ => exact do_7 w base g t rv kv h hb r n hm1 hl
 | 8, _ => exact do_8 w base g t rv kv h hb r n hm1 hl
 | 9, _ => exact do_9 w base g t rv kv h hb r n hm1 hl (hbt (by simp))
 | 10, _ => exact do_10 w base g t rv kv h hb r n hm1 hl (hbt (by simp))
 | m + 11, hk => exact absurd hk.2 (by omega)
end Go.Proofs.Ytfgfnflhdabmcaa.Cfa
end
section
namespace Go.Proofs.Ytfgfnflhdabmcaa.G
open Go.RowKit Go.Proofs.YtfgfnflhdabmcaaW.PrintWords Go.Proofs.YtfgfnflhdabmcaaW.PrintLast Go.Proofs.YtfgfnflhdabmcaaW.PrintMore
attribute [local go_sem] max2_int min2_int max_two min_two max_three min_three max_four min_four
def cfa_bounds.j0 : Nat → Int → Bool → Option (Int)
  | 0, _, _ => none
  | k + 1, x1, x5 => if x5 = true then (some 11) else (if x1 > 4000 then (some 6) else (some 0))
def cfa_bounds.f (k : Nat) (a0 : Int) (a1 : Int) : Option (Int) := if a0 < 0 then (cfa_bounds.j0 k a1 true) else (cfa_bounds.j0 k a1 (decide (a0 > 1048576)))
set_option maxHeartbeats 8000000 in
theorem cfa_bounds.calls (k : Nat) (a0 : Int) (a1 : Int) (r : Int) (w : World) (h : cfa_bounds.f k a0 a1 = some r) :
    Calls Try.prog 82 #[.int .i64 a0, .int .i64 a1] w fun e w' => e = .returned (.int .i64 r) ∧ Drawn0 w w' := by
 have H : (if a0 < 0 then (cfa_bounds.j0 k a1 true) else (cfa_bounds.j0 k a1 (decide (a0 > 1048576)))) = some r := h
 clear h
 have HC3 := am H
 clear H
 go_enter Try.func82, Try.ntmps82
 go_upto_region 1 with (fail)
 go_cut [5] (fun v5 wc => ∃ (kq : Nat) (x5_2 : Bool), v5 = .bool x5_2 ∧ Aside0 (cfa_bounds.j0 kq a1 x5_2 = some r) ∧ Aside0 (kq ≤ k) ∧ Drawn0 w wc)
 case first =>
  have H := HC3.out
  clear HC3
  by_cases c4 : a0 < 0
  ·
   rw [if_pos c4] at H
   have c4b0 : decide (a0 < 0) = true := decide_eq_true c4
   clear c4
   (first | rw [c4b0] | (simp only [i64_w, i32_w]; rw [c4b0]) | skip)
   have H' := am H
   clear H
   go_wp2
   go_meet
   case rel => exact ⟨_, (true), (by first | rfl | (simp; done) | (simp [*]; done)), H', ⟨by first | omega | exact Nat.le_refl _⟩, by repeat (first | exact Drawn0.refl _ | apply Drawn0.step)⟩
  rw [if_neg c4] at H
  have c4b0 : decide (a0 < 0) = false := decide_eq_false c4
  clear c4
  (first | rw [c4b0] | (simp only [i64_w, i32_w]; rw [c4b0]) | skip)
  have H' := am H
  clear H
  go_wp2
  go_meet
  case rel => exact ⟨_, (decide (a0 > 1048576)), (by first | rfl | (simp; done) | (simp [*]; done)), H', ⟨by first | omega | exact Nat.le_refl _⟩, by repeat (first | exact Drawn0.refl _ | apply Drawn0.step)⟩
 case rest =>
  clear HC3
  try clear p2
  try clear c4
  try clear c4b0
  obtain ⟨kq, x5_2, rfl, HA, HJ2, ⟨mc2, rfl⟩⟩ := hcut
  cases kq with
  | zero => exact absurd HA.out (by simp [cfa_bounds.j0])
  | succ kj2 =>
   have H := HA.out
   clear HA
   simp only [cfa_bounds.j0] at H
   by_cases c5 : x5_2 = true
   ·
    subst c5
    replace H : (some 11) = some r := by rw [if_pos rfl] at H; exact H
    obtain rfl := Option.some.inj H
    go_wp2
    go_ret
    exact ⟨by first | rfl | (simp; done) | (simp [*]; done), by repeat (first | exact Drawn0.refl _ | apply Drawn0.step)⟩
   replace c5 := Bool.eq_false_iff.mpr c5
   subst c5
   replace H : (if a1 > 4000 then (some 6) else (some 0)) = some r := by rw [if_neg (show ¬ (false = true) by decide)] at H; exact H
   by_cases c6 : a1 > 4000
   ·
    rw [if_pos c6] at H
    have c6b0 : decide (4000 < a1) = true := decide_eq_true c6
    clear c6
    obtain rfl := Option.some.inj H
    go_wp2
    go_ret
    exact ⟨by first | rfl | (simp; done) | (simp [*]; done), by repeat (first | exact Drawn0.refl _ | apply Drawn0.step)⟩
   rw [if_neg c6] at H
   have c6b0 : decide (4000 < a1) = false := decide_eq_false c6
   clear c6
   obtain rfl := Option.some.inj H
   go_wp2
   go_ret
   exact ⟨by first | rfl | (simp; done) | (simp [*]; done), by repeat (first | exact Drawn0.refl _ | apply Drawn0.step)⟩
end Go.Proofs.Ytfgfnflhdabmcaa.G
end
section
namespace Go.Proofs.Ytfgfnflhdabmcaa.Cfa
open Go.RowKit Go.Proofs.Ytfgfnflhdabmcaa.G Go.Proofs.YtfgfnflhdabmcaaW.PrintWords Go.Proofs.YtfgfnflhdabmcaaW.PrintLast Go.Proofs.YtfgfnflhdabmcaaW.PrintMore
theorem fresh_calls (size : Int) (hs : size ≤ 1048576) (w : World) : Calls Try.prog 83 #[.int .i64 size] w fun e w' => e = .returned (.pointer (some ⟨w.heap.size, 0, none⟩)) ∧ Below w.heap.size w w' ∧ Tab w' w.heap.size w.heap.size (fresh size) (.slice none 0 0) (.slice none 0 0) := by
 have HS := am hs
 clear hs
 go_enter Try.func83, Try.ntmps83
 go_wp2
 go_ret
 refine ⟨rfl, below_alloc (Below.refl _ _) _, good_fresh size HS.out, Nat.le_refl _, blk_new w _, Kd.R_nil _ _ _ _ _, Kd.R_nil _ _ _ _ _⟩
def opl (l : List S105) : List (Int × Int × Int) := l.map fun o => (o.f0, o.f1, o.f2)
theorem opl_drop (l : List S105) (n : Nat) (hn : n < l.length) : (opl l).drop n = ((rd_T105 l n).f0, (rd_T105 l n).f1, (rd_T105 l n).f2) :: (opl l).drop (n + 1) := by
 have : rd_T105 l (n : Int) = l[n] := by simp [rd_T105, List.getD, hn]
 rw [this, opl, List.drop_eq_getElem_cons (by simpa using hn), List.getElem_map]
theorem opl_length (l : List S105) : (opl l).length = l.length := by simp [opl]
structure Far (t t' : T) (n : Nat) : Prop where
  rows : t'.rows.length ≤ t.rows.length + n
  kept : t'.kept.length ≤ t.kept.length + n
  size : t'.size = t.size
  begun : t'.begun = t.begun
  first : t'.first = t.first
theorem Far.zero (t : T) : Far t t 0 := ⟨Nat.le_refl _, Nat.le_refl _, rfl, rfl, rfl⟩
theorem Far.step {t t' t2 : T} {n : Nat} {k r m : Int} (h : Far t t' n) (e : does t' k r m = some t2) : Far t t2 (n + 1) := by
 obtain ⟨h1, h2, h3, h4, h5⟩ := does_size e
 exact ⟨by have := h.rows; omega, by have := h.kept; omega, h1.trans h.size, h2.trans h.begun, h3.trans h.first⟩
theorem begin_calls (w : World) (base g : Nat) (t : T) (rv kv : Value) (h : Tab w base g t rv kv) (hb : base ≤ w.heap.size) (A0 : Option Addr) (c0 : Nat) (l0 : List S105) (hr0 : ∀ W, Below base w W → Kd.C k105 W A0 l0.length l0) (hl0 : l0.length ≤ 100000) (hl : t.rows.length ≤ 100000 ∧ t.kept.length ≤ 100000 ∧ 0 ≤ t.size) :
    Calls Try.prog 84 #[.pointer (some ⟨g, 0, none⟩), .slice A0 l0.length c0] w (Post base g w (begin_ t (opl l0))) := by
 have H := am h
 have HB := am hb
 have HL := am hl
 have HR0 := am hr0
 have HBW := am (Below.refl base w)
 clear h hb hl hr0
 go_enter Try.func84, Try.ntmps84
 go_wp2
 go_loopg [9] l0.length (fun kq i w' => ∃ (n : Nat) (t' : T) (rv kv : Value), n + kq = l0.length ∧ i = .int .i64 (n : Int) ∧ Aside0 (doAll t (opl l0) = doAll t' ((opl l0).drop n)) ∧ Aside0 (Tab w' base g t' rv kv) ∧ Aside0 (Below base w w') ∧ Aside0 (Far t t' n))
 case atStart => exact ⟨0, t, rv, kv, by omega, rfl, ⟨rfl⟩, H, HBW, ⟨Far.zero t⟩⟩
 case round =>
  clear HBW H
  obtain ⟨n, t', rv', kv', hn, rfl, HD, H, HBW, HF⟩ := hrel
  cases gk with
  | zero =>
   have hltb : decide ((n : Int) < (l0.length : Int)) = false := by simp; omega
   have hd := HD.out
   rw [List.drop_of_length_le (by rw [opl_length]; omega)] at hd
   have hfin : begin_ t (opl l0) = if 0 ≤ t'.now.getD 1 0 then some { t' with first := t'.now, begun := true } else none := by
    unfold begin_
    rw [hd]
    rfl
   have h := H.out
   have hn37 := h.good.now
   have g1 := set_firstAll h.blk h.good t'.now hn37
   have hg1 : Good { t' with first := t'.now } := ⟨h.good.now, h.good.now, h.good.rows, h.good.kept, h.good.at0, h.good.size, h.good.atS⟩
   have hg2 : Good { t' with first := t'.now, begun := true } := ⟨h.good.now, h.good.now, h.good.rows, h.good.kept, h.good.at0, h.good.size, h.good.atS⟩
   have g2 := set_begun g1 hg1 true
   have hgr : wr.grownBy ((wr.setCells g 38 (nums .i64 t'.now)).setCell ⟨g, 77, none⟩ (.bool true)) (some g) := grown_set' (grown_setCells _ _ _ _) _ _
   have hTT : Tab ((wr.setCells g 38 (nums .i64 t'.now)).setCell ⟨g, 77, none⟩ (.bool true)) base g { t' with first := t'.now, begun := true } rv' kv' := h.turn hgr hg2 g2 rfl rfl
   have e1 : (wr.setCells g 38 (nums .i64 t'.now)).cell? ⟨g, 77, none⟩ = some (.bool t'.begun) := by rw [blk_cell g1, List.getElem?_toArray]; exact cells_tail hg1 2
   have e2 : (wr.setCells g 38 (nums .i64 t'.now)).frozen? ⟨g, 77, none⟩ = false := blk_frozen g1 77
   have e3 : (wr.setCells g 38 (nums .i64 t'.now)).cell? ⟨g, 2, none⟩ = some (.int .i64 (t'.now.getD 1 0)) := by rw [blk_cell g1, List.getElem?_toArray]; exact cells_now hg1 1 (by omega)
   have HN := am h.nowR
   have HN37 := am hn37
   have HTH := am (there_of_blk (o := 38) (n := 37) h.blk (by rw [List.size_toArray, cells_len h.good]; decide))
   have HFIN := am hfin
   have HTT := am hTT
   have HBB := am (HBW.out.trans (below_grown hgr (by have := HB.out; have := HBW.out.size; omega) h.lo))
   obtain ⟨x, hx⟩ : ∃ x, t'.now.getD 1 0 = x := ⟨_, rfl⟩
   rw [hx] at e3
   have HX := am hx
   clear hd hfin h hn37 g1 hg1 hg2 g2 hgr hTT hx HD HF
   go_wp2_with (first
     | (refine load_rowW rowTy rfl (.tmp 22) rfl g 1 rfl t'.now HN37.out HN.out ?_)
     | (refine store_rowW rowTy rfl (.tmp 25) (.tmp 23) rfl g 38 t'.now HN37.out rfl rfl HTH.out ?_))
   go_ret
   have e := HFIN.out
   rw [HX.out] at e
   rw [e]
   by_cases c : 0 ≤ x
   ·
    rw [if_pos c, decide_eq_true (show x ≥ 0 from c)]
    refine ⟨rfl, HBB.out, fun t2 e => ?_⟩
    cases e
    exact ⟨_, _, HTT.out⟩
   rw [if_neg c, decide_eq_false (show ¬ x ≥ 0 from c)]
   exact ⟨rfl, HBB.out, fun t2 e => by cases e⟩
  | succ gk =>
   have hltb : decide ((n : Int) < (l0.length : Int)) = true := by simp; omega
   obtain ⟨ad, rfl, hx0, hx1, hx2⟩ := at_T105 (HR0.out _ HBW.out) (n : Int) (by omega) (by omega)
   rw [Int.toNat_natCast] at hx0 hx1 hx2
   have hd := opl_drop l0 n (by omega)
   generalize rd_T105 l0 (n : Int) = x at *
   have HDR := am hd
   clear hd
   go_wp2_with fail
   refine (do_calls _ base g t' rv' kv' (H.out.below (below_alloc (Below.refl _ _) _)) (by have := HB.out; have := HBW.out.size; simp; omega) x.f0 x.f1 x.f2 (by have := HF.out; have := this.rows; have := HF.out.kept; have := HL.out; have := HF.out.size; omega)).mono ?_
   rintro e w2 ⟨rfl, hb2, hp⟩
   have hB2 : Below base w w2 := (HBW.out.trans ((below_alloc (Below.refl _ _) _).mono (by have := HB.out; have := HBW.out.size; omega))).trans hb2
   have he : doAll t' ((opl l0).drop n) = (does t' x.f0 x.f1 x.f2).bind fun t'' => doAll t'' ((opl l0).drop (n + 1)) := by rw [HDR.out]; rfl
   cases hd : does t' x.f0 x.f1 x.f2 with
   | none =>
    rw [hd] at he
    have HE := am (HD.out.trans he)
    have HB2 := am hB2
    clear he hd hb2 hp hB2
    simp only [Option.isSome_none]
    go_wp2
    go_ret
    have e : begin_ t (opl l0) = none := by unfold begin_; rw [HE.out]; rfl
    rw [e]
    exact ⟨rfl, HB2.out, fun _ e => by cases e⟩
   | some t2 =>
    rw [hd] at he
    obtain ⟨rv2, kv2, hT2⟩ := hp t2 hd
    have HE := am (HD.out.trans he)
    have HB2 := am hB2
    have HT2 := am hT2
    have HF2 := am (HF.out.step hd)
    clear he hd hb2 hp hB2 hT2
    simp only [Option.isSome_some]
    go_wp2
    go_roundg gk
    case measure => omega
    case rel => exact ⟨n + 1, t2, rv2, kv2, by omega, by go_num, HE, HT2, HB2, HF2⟩
end Go.Proofs.Ytfgfnflhdabmcaa.Cfa
end
section
namespace Go.Proofs.Ytfgfnflhdabmcaa.Cfa
open Go.RowKit Go.Proofs.Ytfgfnflhdabmcaa.G Go.Proofs.YtfgfnflhdabmcaaW.PrintWords Go.Proofs.YtfgfnflhdabmcaaW.PrintLast Go.Proofs.YtfgfnflhdabmcaaW.PrintMore
attribute [local go_sem] max2_int min2_int max_two min_two max_three min_three max_four min_four
def RowsPost (w : World) (r : List Row × Int) (e : Ending) (w' : World) : Prop :=
  ∃ v, e = .returned (.tuple #[v, .int .i64 r.2]) ∧ Kd.R rowK 145 w' w.heap.size (fun _ => True) v r.1 ∧ Below w.heap.size w w'
theorem bounds_f (size m : Int) : cfa_bounds.f 1 size m = some (if size < 0 ∨ 1048576 < size then 11 else if 4000 < m then 6 else 0) := by
 unfold cfa_bounds.f
 by_cases c : size < 0
 ·
  rw [if_pos c, if_pos (.inl c)]
  simp only [cfa_bounds.j0, if_true]
 rw [if_neg c]
 by_cases c2 : 1048576 < size
 ·
  rw [if_pos (.inr c2), decide_eq_true (show size > 1048576 from c2)]
  simp only [cfa_bounds.j0, if_true]
 rw [if_neg (by omega), decide_eq_false (show ¬ size > 1048576 from c2)]
 simp only [cfa_bounds.j0]
 rw [if_neg (by decide)]
 by_cases c3 : 4000 < m
 ·
  rw [if_pos c3, if_pos c3]
 rw [if_neg c3, if_neg c3]
theorem rows_refused (A0 : Option Addr) (c0 : Nat) (l0 : List S105) (A1 : Option Addr) (c1 : Nat) (l1 : List S105) (size : Int) (w : World) (m : Int) (hmx : (if l0.length < l1.length then (l1.length : Int) else (l0.length : Int)) = m) (er : Int) (her : (if size < 0 ∨ 1048576 < size then (11 : Int) else if 4000 < m then 6 else 0) = er) (hne : er ≠ 0) :
    Calls Try.prog 64 #[.slice A0 l0.length c0, .slice A1 l1.length c1, .int .i64 size] w (RowsPost w ([], er)) := by
 have hb := bounds_f size m
 rw [her] at hb
 have HBD := am hb
 obtain ⟨d1, d2⟩ := may_ne hne
 clear hb her hne
 go_enter Try.func64, Try.ntmps64
 go_wp2
 go_step3
 go_wp2_with fail
 refine (cfa_bounds.calls 1 size m er _ HBD.out).mono ?_
 rintro e w1 ⟨rfl, hb1⟩
 go_wp2
 try rw [Exit.noGoto_ret]
 go_ret2
 exact ⟨_, rfl, Kd.R_nil _ _ _ _ _, hb1.below⟩
theorem rows_nobegin (A0 : Option Addr) (c0 : Nat) (l0 : List S105) (A1 : Option Addr) (c1 : Nat) (l1 : List S105) (size : Int) (w : World) (hr0 : Kd.C k105 w A0 l0.length l0) (hr1 : Kd.C k105 w A1 l1.length l1) (m : Int) (hmx : (if l0.length < l1.length then (l1.length : Int) else (l0.length : Int)) = m) (hs0 : 0 ≤ size) (hs1 : size ≤ 1048576) (hm : m ≤ 4000) (hl0 : l0.length ≤ 4000) (hl1 : l1.length ≤ 4000) (hbg : begin_ (fresh size) (opl l0) = none) :
    Calls Try.prog 64 #[.slice A0 l0.length c0, .slice A1 l1.length c1, .int .i64 size] w (RowsPost w ([], 130)) := by
 have hb := bounds_f size m
 rw [if_neg (by omega), if_neg (by omega)] at hb
 have HBD := am hb
 have HR0 := am hr0
 have HR1 := am hr1
 have HBG := am hbg
 have HS0 := am hs0
 have HS1 := am hs1
 clear hb hr0 hr1 hbg hs0 hs1 hm
 go_enter Try.func64, Try.ntmps64
 go_wp2
 go_step3
 go_wp2_with fail
 refine (cfa_bounds.calls 1 size m 0 _ HBD.out).mono ?_
 rintro e w1 ⟨rfl, hb1⟩
 have HB1 := am hb1.below
 clear hb1
 go_wp2_with fail
 refine (fresh_calls size HS1.out _).mono ?_
 rintro e w2 ⟨rfl, hb2, hT⟩
 have HB2 := am (below_step HB1.out hb2)
 have HT := am hT
 have hle : w.heap.size ≤ w1.heap.size := HB1.out.size
 have HLE := am hle
 have HBB := am hb2
 clear hb2 hT hle
 generalize w1.heap.size = g at *
 go_wp2_with fail
 refine (begin_calls _ w.heap.size g (fresh size) _ _ ⟨HT.out.good, HLE.out, HT.out.blk, Kd.R_nil _ _ _ _ _, Kd.R_nil _ _ _ _ _⟩ HB2.out.size A0 c0 l0 (fun W hW => Kd.C_below HR0.out (HB2.out.trans hW)) (by omega) ⟨by show 0 ≤ _; omega, by show 0 ≤ _; omega, HS0.out⟩).mono ?_
 rw [HBG.out]
 rintro e w3 ⟨rfl, hb3, -⟩
 have HB3 := am (HB2.out.trans hb3)
 clear hb3
 simp only [Option.isSome_none]
 go_wp2
 go_step3
 go_wp2
 go_loopg [10, 30] l1.length (fun kq v10 i w' => v10 = .bool false ∧ i = .int .i64 0 ∧ kq = l1.length ∧ Aside0 (Below w.heap.size w w'))
 case atStart => exact ⟨rfl, rfl, rfl, HB3⟩
 case round =>
  clear HB3
  obtain ⟨rfl, rfl, hk, HB3⟩ := hrel
  rcases Nat.eq_zero_or_pos l1.length with h0 | h0
  ·
   have hltb : decide ((0 : Int) < (l1.length : Int)) = false := decide_eq_false (by omega)
   go_wp2
   rw [Exit.noGoto_ret]
   go_ret2
   exact ⟨_, rfl, Kd.R_nil _ _ _ _ _, HB3.out⟩
  have hltb : decide ((0 : Int) < (l1.length : Int)) = true := decide_eq_true (by omega)
  obtain ⟨ad, rfl, hx0, hx1, hx2⟩ := at_T105 (Kd.C_below HR1.out HB3.out) (0 : Int) (by omega) (by omega)
  simp only [Int.toNat_zero, Nat.zero_mul] at hx0 hx1 hx2
  have hz : ad.add 0 = ad := by simp [Addr.add]
  rw [hz] at hx0 hx1 hx2
  generalize rd_T105 l1 (0 : Int) = x at *
  go_wp2
  rw [Exit.noGoto_ret]
  go_ret2
  exact ⟨_, rfl, Kd.R_nil _ _ _ _ _, below_alloc HB3.out _⟩
theorem doAll_far {t t' : T} : ∀ (l : List (Int × Int × Int)) (n : Nat) (t0 : T), Far t0 t n → doAll t l = some t' → Far t0 t' (n + l.length)
  | [], n, t0, h, e => by cases e; exact h
  | o :: l, n, t0, h, e => by
    unfold doAll at e
    cases hd : does t o.1 o.2.1 o.2.2 with
    | none => rw [hd] at e; cases e
    | some t2 =>
      rw [hd] at e
      have := doAll_far l (n + 1) t0 (h.step hd) e
      rw [List.length_cons, show n + (l.length + 1) = n + 1 + l.length from by omega]
      exact this
theorem begin_far {t t' : T} {l : List (Int × Int × Int)} (e : begin_ t l = some t') : t'.rows.length ≤ t.rows.length + l.length ∧ t'.kept.length ≤ t.kept.length + l.length ∧ t'.size = t.size := by
 unfold begin_ at e
 cases hd : doAll t l with
 | none => rw [hd] at e; cases e
 | some t2 =>
  rw [hd] at e
  have := doAll_far l 0 t (Far.zero t) hd
  rcases ite_cases e with ⟨_, e⟩ | ⟨_, e⟩
  ·
   cases e
   exact ⟨by show t2.rows.length ≤ _; have := this.rows; omega, by show t2.kept.length ≤ _; have := this.kept; omega, this.size⟩
  cases e
set_option maxHeartbeats 1000000 in
theorem rows_main (A0 : Option Addr) (c0 : Nat) (l0 : List S105) (A1 : Option Addr) (c1 : Nat) (l1 : List S105) (size : Int) (w : World) (hr0 : Kd.C k105 w A0 l0.length l0) (hr1 : Kd.C k105 w A1 l1.length l1) (m : Int) (hmx : (if l0.length < l1.length then (l1.length : Int) else (l0.length : Int)) = m) (hs0 : 0 ≤ size) (hs1 : size ≤ 1048576) (hm : m ≤ 4000) (hl0 : l0.length ≤ 4000) (hl1 : l1.length ≤ 4000) (t1 : T) (hbg : begin_ (fresh size) (opl l0) = some t1) :
    Calls Try.prog 64 #[.slice A0 l0.length c0, .slice A1 l1.length c1, .int .i64 size] w (RowsPost w (match doAll t1 (opl l1) with | none => ([], 130) | some t => (t.rows ++ [t.now], 0))) := by
 have hb := bounds_f size m
 rw [if_neg (by omega), if_neg (by omega)] at hb
 have HBD := am hb
 have HR0 := am hr0
 have HR1 := am hr1
 have hbf := begin_far hbg
 rw [opl_length] at hbf
 have HBF := am (show t1.rows.length ≤ 4000 ∧ t1.kept.length ≤ 4000 ∧ 0 ≤ t1.size from ⟨by have : (fresh size).rows.length = 0 := rfl; omega, by have : (fresh size).kept.length = 0 := rfl; omega, by have : (fresh size).size = size := rfl; omega⟩)
 have HBG := am hbg
 have HS0 := am hs0
 have HS1 := am hs1
 obtain ⟨R, hR⟩ : ∃ R, (match doAll t1 (opl l1) with | none => (([] : List Row), (130 : Int)) | some t => (t.rows ++ [t.now], 0)) = R := ⟨_, rfl⟩
 rw [hR]
 have HR := am hR
 clear hb hr0 hr1 hbg hs0 hs1 hm hR hbf
 go_enter Try.func64, Try.ntmps64
 go_wp2
 go_step3
 go_wp2_with fail
 refine (cfa_bounds.calls 1 size m 0 _ HBD.out).mono ?_
 rintro e w1 ⟨rfl, hb1⟩
 have HB1 := am hb1.below
 clear hb1
 go_wp2_with fail
 refine (fresh_calls size HS1.out _).mono ?_
 rintro e w2 ⟨rfl, hb2, hT⟩
 have HB2 := am (below_step HB1.out hb2)
 have HT := am hT
 have hle : w.heap.size ≤ w1.heap.size := HB1.out.size
 have HLE := am hle
 clear hb2 hT hle
 generalize w1.heap.size = g at *
 go_wp2_with fail
 refine (begin_calls _ w.heap.size g (fresh size) _ _ ⟨HT.out.good, HLE.out, HT.out.blk, Kd.R_nil _ _ _ _ _, Kd.R_nil _ _ _ _ _⟩ HB2.out.size A0 c0 l0 (fun W hW => Kd.C_below HR0.out (HB2.out.trans hW)) (by omega) ⟨by show 0 ≤ _; omega, by show 0 ≤ _; omega, HS0.out⟩).mono ?_
 rw [HBG.out]
 rintro e w3 ⟨rfl, hb3, hp⟩
 obtain ⟨rv, kv, hT3⟩ := hp t1 rfl
 have HT3 := am hT3
 have HB3 := am (HB2.out.trans hb3)
 clear hb3 hp hT3 HT HB2 HB1
 simp only [Option.isSome_some]
 go_wp2
 go_step3
 go_wp2
 go_loopg [10, 30] l1.length (fun kq v10 i w' => v10 = .bool true ∧ ∃ (n : Nat) (t' : T) (rv kv : Value), n + kq = l1.length ∧ i = .int .i64 (n : Int) ∧ Aside0 (doAll t1 (opl l1) = doAll t' ((opl l1).drop n)) ∧ Aside0 (Tab w' w.heap.size g t' rv kv) ∧ Aside0 (Below w.heap.size w w') ∧ Aside0 (Far t1 t' n))
 case atStart => exact ⟨rfl, 0, t1, rv, kv, by omega, rfl, ⟨rfl⟩, HT3, HB3, ⟨Far.zero t1⟩⟩
 case round =>
  clear HB3 HT3
  obtain ⟨rfl, n, t', rv', kv', hn, rfl, HD, HT, HB, HF⟩ := hrel
  cases gk with
  | zero =>
   have hltb : decide ((n : Int) < (l1.length : Int)) = false := decide_eq_false (by omega)
   have hd := HD.out
   rw [List.drop_of_length_le (by rw [opl_length]; omega)] at hd
   have hres := HR.out
   rw [hd] at hres
   have hres2 : (t'.rows ++ [t'.now], (0 : Int)) = R := hres
   subst hres2
   have f1 := HT.out.rowsC
   have HN := am HT.out.nowR
   clear hd hres HR HD
   go_wp2
   refine start_ (n := 12) (S := fun u => u.cell? ⟨g, 0, none⟩ = some rv' ∧ Aside0 (u.rangeAt g 1 (nums .i64 t'.now))) (ds := [9]) (bm 12 0) (by kernel_rfl) rfl rfl ?_ (fun hHeld => ?_)
   case refine_1 => exact ⟨by go_simp, ⟨(World.rangeAt_drew _ _ _ _).2 HN.out⟩⟩
   refine pure_ (i := 0) (N := some 45) (v := ?_) (a' := ?_) (bm 12 1) rfl rfl (by kernel_rfl) (fun _ _ _ h => h) (Or.inl ⟨by rfl, ?_⟩) ?_ ?_
   rotate_left
   ·
    intro u
    go_simp
    with_reducible rfl
   rotate_left
   ·
    simp only [pz]
    rfl
   refine pure_ (i := 1) (N := some 46) (v := ?_) (a' := ?_) (bm 12 3) rfl rfl (by kernel_rfl) (fun _ _ _ h => h) (Or.inl ⟨by rfl, ?_⟩) ?_ ?_
   rotate_left
   ·
    intro u
    go_simp
    with_reducible rfl
   rotate_left
   ·
    simp only [pz]
    rfl
   refine pure_ (i := 2) (N := some 47) (v := ?_) (a' := ?_) (bm 12 7) rfl rfl (by kernel_rfl) (fun _ _ _ h => h) (Or.inl ⟨by rfl, ?_⟩) ?_ ?_
   rotate_left
   ·
    intro u
    go_simp
    with_reducible rfl
   rotate_left
   ·
    simp only [pz]
    rfl
   refine take_ (i := 3) (N := some 48) (v := ?_) (a' := ?_) (bm 12 15) rfl rfl (by kernel_rfl) (fun _ _ _ h => h) (Or.inl ⟨by rfl, ?_⟩) hHeld ?_ ?_
   rotate_left
   ·
    rintro u ⟨s0, s1⟩
    go_simp
    with_reducible rfl
   rotate_left
   ·
    simp only [pz]
    rfl
   refine pure_ (i := 4) (N := some 49) (v := ?_) (a' := ?_) (bm 12 31) rfl rfl (by kernel_rfl) (fun _ _ _ h => h) (Or.inl ⟨by rfl, ?_⟩) ?_ ?_
   rotate_left
   ·
    intro u
    go_simp
    with_reducible rfl
   rotate_left
   ·
    simp only [pz]
    rfl
   refine pure_ (i := 5) (N := some 50) (v := ?_) (a' := ?_) (bm 12 63) rfl rfl (by kernel_rfl) (fun _ _ _ h => h) (Or.inl ⟨by rfl, ?_⟩) ?_ ?_
   rotate_left
   ·
    intro u
    go_simp
    with_reducible rfl
   rotate_left
   ·
    simp only [pz]
    rfl
   refine pure_ (i := 6) (N := some 51) (v := ?_) (a' := ?_) (bm 12 127) rfl rfl (by kernel_rfl) (fun _ _ _ h => h) (Or.inl ⟨by rfl, ?_⟩) ?_ ?_
   rotate_left
   ·
    intro u
    go_simp
    with_reducible rfl
   rotate_left
   ·
    simp only [pz]
    rfl
   refine take_ (i := 7) (N := some 52) (v := .agg (nums .i64 t'.now).toArray) (a' := ?_) (bm 12 255) rfl rfl (by kernel_rfl) (fun _ _ _ h => h) (load_row_y (by rfl) (.tmp 51) rfl g 1 rfl t'.now HT.out.good.now (fun u hu => hu.2.out)) hHeld ?_ ?_
   rotate_left
   ·
    simp only [pz]
    rfl
   refine one_ (i := 8) (N := some 53) (bm 12 511) rfl rfl (by kernel_rfl) (by decide) (fun K hK => ?_)
   rw [if_pos (by rfl)]
   refine wp_build_row (.tmp 52) rfl t'.now HT.out.good.now rfl ?_
   have hgl := blk_lt HT.out.blk
   refine hK.out _ _ ⟨by go_simp, ⟨World.rangeAt_alloc ((World.rangeAt_drew _ _ _ _).2 HN.out) _⟩⟩ (fun hHeld => ?_)
   clear hK K hgl
   refine norm_ (a' := ?_) ?_ ?_
   rotate_left
   ·
    show Act.put _ (some 53) _ = _
    simp only [pz]
    rfl
   refine last_ (i := 9) (N := some 54) (bm 12 1023) rfl rfl (by kernel_rfl) (by decide) (fun K hK => ?_)
   refine Kd.R_append_step rowK (w0 := w) w.heap.size (by rfl) (.tmp 48) (.tmp 53) 111 145 _ 296 rfl Try.underlying111 info145 rfl (by decide) (by decide) rv' t'.rows t'.now (nums .i64 t'.now) (fun k => True) (fun _ => False) rfl rfl (row_M _ _ _ _ HT.out.good.now) (fun _ h => h.elim) (fun _ _ => trivial) ?aO ?aB ?aS ?aL ?_
   case aO => exact Kd.R_mono (Kd.R_below HT.out.rows (below_drew (Below.refl _ _))) (fun _ _ => trivial)
   case aB => exact below_drew HB.out
   case aS => exact HB.out.size
   case aL => have := HBF.out.1; have := HF.out.rows; omega
   intro v1 w4 ho hbb hgr hat
   have HO := am ho
   have HBB := am hbb
   clear ho hbb hgr hat
   refine hK.out _ _ ?_
   clear hK K
   refine norm_ (a' := ?_) ?_ ?_
   rotate_left
   ·
    show Act.put _ (some 54) _ = _
    simp only [pz]
    rfl
   refine pure_ (i := 10) (N := some 6) (v := ?_) (a' := ?_) (bm 12 2047) rfl rfl (by kernel_rfl) (fun _ _ _ h => h) (Or.inl ⟨by rfl, ?_⟩) ?_ ?_
   rotate_left
   ·
    intro u
    go_simp
    with_reducible rfl
   rotate_left
   ·
    simp only [pz]
    rfl
   refine pure_ (i := 11) (N := some 7) (v := ?_) (a' := ?_) (bm 12 4095) rfl rfl (by kernel_rfl) (fun _ _ _ h => h) (Or.inl ⟨by rfl, ?_⟩) ?_ ?_
   rotate_left
   ·
    intro u
    go_simp
    with_reducible rfl
   rotate_left
   ·
    simp only [pz]
    rfl
   refine done_ (by kernel_rfl) ?_
   go_wp2
   rw [Exit.noGoto_ret]
   go_ret2
   exact ⟨_, rfl, HO.out, HBB.out⟩
  | succ gk =>
   have hltb : decide ((n : Int) < (l1.length : Int)) = true := decide_eq_true (by omega)
   obtain ⟨ad, rfl, hx0, hx1, hx2⟩ := at_T105 (Kd.C_below HR1.out HB.out) (n : Int) (by omega) (by omega)
   rw [Int.toNat_natCast] at hx0 hx1 hx2
   have hd := opl_drop l1 n (by omega)
   generalize rd_T105 l1 (n : Int) = x at *
   have HDR := am hd
   clear hd
   go_wp2_with fail
   refine (do_calls _ w.heap.size g t' rv' kv' (HT.out.below (below_alloc (Below.refl _ _) _)) (by have := HB.out.size; simp; omega) x.f0 x.f1 x.f2 (by have := HF.out.rows; have := HF.out.kept; have := HBF.out; have := HF.out.size; omega)).mono ?_
   rintro e w5 ⟨rfl, hb2, hp⟩
   have hB2 : Below w.heap.size w w5 := (below_alloc HB.out _).trans hb2
   have he : doAll t' ((opl l1).drop n) = (does t' x.f0 x.f1 x.f2).bind fun t'' => doAll t'' ((opl l1).drop (n + 1)) := by rw [HDR.out]; rfl
   cases hd : does t' x.f0 x.f1 x.f2 with
   | none =>
    rw [hd] at he
    have HE := am (HD.out.trans he)
    have HB2 := am hB2
    clear he hd hb2 hp hB2
    simp only [Option.isSome_none]
    go_wp2
    rw [Exit.noGoto_ret]
    go_ret2
    have hres := HR.out
    rw [HE.out] at hres
    have hres2 : ([], (130 : Int)) = R := hres
    subst hres2
    exact ⟨_, rfl, Kd.R_nil _ _ _ _ _, HB2.out⟩
   | some t2 =>
    rw [hd] at he
    obtain ⟨rv2, kv2, hT2⟩ := hp t2 hd
    have HE := am (HD.out.trans he)
    have HB2 := am hB2
    have HT2 := am hT2
    have HF2 := am (HF.out.step hd)
    clear he hd hb2 hp hB2 hT2
    simp only [Option.isSome_some]
    go_wp2
    go_roundg gk
    case measure => omega
    case rel => exact ⟨rfl, n + 1, t2, rv2, kv2, by omega, by go_num, HE, HT2, HB2, HF2⟩
theorem rows_calls (A0 : Option Addr) (c0 : Nat) (l0 : List S105) (A1 : Option Addr) (c1 : Nat) (l1 : List S105) (size : Int) (w : World) (hr0 : Kd.C k105 w A0 l0.length l0) (hr1 : Kd.C k105 w A1 l1.length l1) :
    Calls Try.prog 64 #[.slice A0 l0.length c0, .slice A1 l1.length c1, .int .i64 size] w (RowsPost w (rowsOf (opl l0) (opl l1) size)) := by
 obtain ⟨m, hm⟩ : ∃ m, (if l0.length < l1.length then (l1.length : Int) else (l0.length : Int)) = m := ⟨_, rfl⟩
 have hm1 : (l0.length : Int) ≤ m ∧ (l1.length : Int) ≤ m ∧ (m = l0.length ∨ m = l1.length) := by rw [← hm]; split <;> omega
 unfold rowsOf
 rw [opl_length, opl_length]
 by_cases c1' : size < 0 ∨ 1048576 < size
 ·
  rw [if_pos c1']
  exact rows_refused A0 c0 l0 A1 c1 l1 size w m hm 11 (if_pos c1') (by decide)
 rw [if_neg c1']
 by_cases c2 : 4000 < l0.length ∨ 4000 < l1.length
 ·
  rw [if_pos c2]
  exact rows_refused A0 c0 l0 A1 c1 l1 size w m hm 6 (by rw [if_neg c1', if_pos (by omega)]) (by decide)
 rw [if_neg c2]
 unfold run
 cases hb : begin_ (fresh size) (opl l0) with
 | none => exact rows_nobegin A0 c0 l0 A1 c1 l1 size w hr0 hr1 m hm (by omega) (by omega) (by omega) (by omega) (by omega) hb
 | some t1 => exact rows_main A0 c0 l0 A1 c1 l1 size w hr0 hr1 m hm (by omega) (by omega) (by omega) (by omega) (by omega) t1 hb
end Go.Proofs.Ytfgfnflhdabmcaa.Cfa
end
section
namespace Go.Proofs.Ytfgfnflhdabmcaa.Cfa
open Go.RowKit Go.Proofs.Ytfgfnflhdabmcaa.G Go.Proofs.YtfgfnflhdabmcaaW.PrintWords Go.Proofs.YtfgfnflhdabmcaaW.PrintLast Go.Proofs.YtfgfnflhdabmcaaW.PrintMore
theorem check_calls (A0 : Option Addr) (c0 : Nat) (l0 : List S105) (A1 : Option Addr) (c1 : Nat) (l1 : List S105) (size : Int) (w : World) (hr0 : Kd.C k105 w A0 l0.length l0) (hr1 : Kd.C k105 w A1 l1.length l1) (R : List Row × Int) (hR : rowsOf (opl l0) (opl l1) size = R) :
    Calls Try.prog 31 #[.slice A0 l0.length c0, .slice A1 l1.length c1, .int .i64 size] w fun e w' => e = .returned (.int .i64 R.2) ∧ Below w.heap.size w w' := by
 have hc := Cfa.rows_calls A0 c0 l0 A1 c1 l1 size w hr0 hr1
 rw [hR] at hc
 have HC := am hc
 clear hc hR hr0 hr1
 go_enter Try.func31, Try.ntmps31
 go_wp2_with fail
 refine HC.out.mono ?_
 rintro e w1 ⟨v, rfl, hv, hw1⟩
 clear hv HC
 simp only []
 go_wp2
 go_ret
 exact ⟨rfl, hw1⟩
end Go.Proofs.Ytfgfnflhdabmcaa.Cfa
end
section
namespace Go.Proofs.Ytfgfnflhdabmcaa.Eh
open Go.RowKit Go.Proofs.Ytfgfnflhdabmcaa.G Go.Proofs.YtfgfnflhdabmcaaW.PrintWords Go.Proofs.YtfgfnflhdabmcaaW.PrintLast Go.Proofs.YtfgfnflhdabmcaaW.PrintMore
def farB (x : Int) : Bool := decide (x < -1152921504606846976) || decide (1152921504606846976 < x)
theorem far_no {x : Int} (h : farB x = false) : -1152921504606846976 ≤ x ∧ x ≤ 1152921504606846976 := by
  simp only [farB, Bool.or_eq_false_iff, decide_eq_false_iff_not] at h
  omega
theorem near_step (l : List Int) (i : Nat) (h : i < l.length) (hl : l.length ≤ 100) (k : Nat) : ehframe_near.l0 (k + 1) l (l.length : Int) (i : Int) = if farB (rd l (i : Int)) = true then some false else ehframe_near.l0 k l (l.length : Int) ((i + 1 : Nat) : Int) := by
  rw [ehframe_near.l0, if_pos (by omega), if_pos (by omega), if_pos (by omega), show wrap64 ((i : Int) + 1) = ((i + 1 : Nat) : Int) from by unfold wrap64; omega]
  unfold farB
  by_cases h1 : rd l (i : Int) < -1152921504606846976
  · rw [if_pos h1, if_pos (by simp [h1])]
  · rw [if_neg h1]
    by_cases h2 : rd l (i : Int) > 1152921504606846976
    · rw [if_pos h2, if_pos (by simp; omega)]
    · rw [if_neg h2, if_neg (by simp; omega)]
theorem near_end (l : List Int) (k : Nat) : ehframe_near.l0 (k + 1) l (l.length : Int) (l.length : Int) = some true := by
  rw [ehframe_near.l0, if_neg (by omega)]
theorem near1 (x : Int) (k : Nat) (hk : 4 ≤ k) : ehframe_near.f k [x] = some (!farB x) := by
  obtain ⟨k, rfl⟩ : ∃ m, k = m + 2 := ⟨k - 2, by omega⟩
  unfold ehframe_near.f
  have h0 := near_step [x] 0 (by simp) (by simp) (k + 1)
  have h1 := near_end [x] k
  rw [show ((0 : Nat) : Int) = 0 from rfl, show rd [x] 0 = x from rfl] at h0
  rw [h0]
  cases hx : farB x
  · exact h1
  · rfl
theorem near2 (x y : Int) (k : Nat) (hk : 4 ≤ k) : ehframe_near.f k [x, y] = some (!(farB x || farB y)) := by
  obtain ⟨k, rfl⟩ : ∃ m, k = m + 3 := ⟨k - 3, by omega⟩
  unfold ehframe_near.f
  have h0 := near_step [x, y] 0 (by simp) (by simp) (k + 2)
  have h1 := near_step [x, y] 1 (by simp) (by simp) (k + 1)
  have h2 := near_end [x, y] k
  rw [show ((0 : Nat) : Int) = 0 from rfl, show rd [x, y] 0 = x from rfl] at h0
  rw [show rd [x, y] ((1 : Nat) : Int) = y from rfl] at h1
  rw [h0]
  cases hx : farB x
  · refine h1.trans ?_
    cases hy : farB y
    · exact h2
    · rfl
  · rfl
end Go.Proofs.Ytfgfnflhdabmcaa.Eh
end
section
namespace Go.Proofs.Ytfgfnflhdabmcaa.Eh
open Go.RowKit Go.Proofs.Ytfgfnflhdabmcaa.G Go.Proofs.YtfgfnflhdabmcaaW.PrintWords Go.Proofs.YtfgfnflhdabmcaaW.PrintLast Go.Proofs.YtfgfnflhdabmcaaW.PrintMore Go.Proofs.Ytfgfnflhdabmcaa.EhOf
theorem atC (l : List S69) (i : Nat) (h : i < l.length) : l.drop i = rd_T69 l (i : Int) :: l.drop (i + 1) := by
 have hrd : rd_T69 l (i : Int) = l[i] := by simp [rd_T69, List.getD, h]
 rw [hrd, List.drop_eq_getElem_cons h]
theorem atF (l : List S46) (i : Nat) (h : i < l.length) : l.drop i = rd_T46 l (i : Int) :: l.drop (i + 1) := by
 have hrd : rd_T46 l (i : Int) = l[i] := by simp [rd_T46, List.getD, h]
 rw [hrd, List.drop_eq_getElem_cons h]
def okC0 (x : S69) : Bool := decide (x.f1.length ≤ 3992)
def okF0 (y : S46) : Bool := decide (y.f3.length ≤ 3992)
def okC1 (x : S69) : Bool := (ofF x.f0).2.2.2
def okF1 (n : Nat) (y : S46) : Bool := decide (0 ≤ y.f0) && decide (y.f0 < n) && !farB y.f1 && decide (0 ≤ y.f2) && decide (y.f2 ≤ 1048576)
def okC2 (x : S69) : Bool := decide ((Cfa.rowsOf (Cfa.opl x.f1) (Cfa.opl []) 0).2 = 0)
def okF2 (c : List S69) (y : S46) : Bool := decide ((Cfa.rowsOf (Cfa.opl (rd_T69 c y.f0).f1) (Cfa.opl y.f3) y.f2).2 = 0)
def checkV (c : List S69) (f : List S46) : Int :=
  if 4000 < c.length ∨ 4000 < f.length then 6
  else if c.all okC0 = false then 6 else if f.all okF0 = false then 6
  else if c.all okC1 = false then 140 else if f.all (okF1 c.length) = false then 140
  else if c.all okC2 = false then 130 else if f.all (okF2 c) = false then 130 else 0
theorem w1 {i n : Nat} (h : i < n) (hn : n ≤ 4000) : wrap64 ((i : Int) + 1) = ((i + 1 : Nat) : Int) := by unfold wrap64; omega
theorem C_blk {α : Type} (d : Kd α) {w : World} {g e : Nat} {cs : Array Value} {xs : List α} (h : w.heap[g]? = some (.cells cs e (0, 0))) (hr : Reps (d.K w) d.sz xs cs.toList) (hm : xs.length ≤ 9223372036854775807) : d.C w (some ⟨g, 0, none⟩) xs.length xs := by
 refine ⟨rfl, hm, fun _ => ⟨_, rfl, fun j p hj => ⟨_, ?_, hr.2 j p hj, fun i u hu => ?_⟩⟩⟩
 ·
  exact d.K_len (hr.2 j p hj)
 have hc := blk_cell h (j * d.sz + i)
 have hl := d.K_len (hr.2 j p hj)
 have hi : i < d.sz := by rw [← hl]; exact (List.getElem?_eq_some_iff.1 hu).1
 have e1 : (⟨g, 0, none⟩ : Addr).add (j * d.sz + i) = ⟨g, j * d.sz + i, none⟩ := by
  unfold Addr.add
  split
  ·
   rename_i h0; rw [h0]
  simp only [Nat.zero_add]
 rw [e1, hc, ← hu]
 rw [List.getElem?_take_of_lt hi, List.getElem?_drop, Array.getElem?_toList]
theorem all_bad {α : Type} {l : List α} {p : α → Bool} {x : α} (h : x ∈ l) (hp : p x = false) : l.all p = false := by
 rw [List.all_eq_false]
 exact ⟨x, h, by rw [hp]; simp⟩
theorem memC (l : List S69) (i : Nat) (h : i < l.length) : rd_T69 l (i : Int) ∈ l := List.mem_of_mem_drop (by rw [atC l i h]; exact List.mem_cons_self)
theorem memF (l : List S46) (i : Nat) (h : i < l.length) : rd_T46 l (i : Int) ∈ l := List.mem_of_mem_drop (by rw [atF l i h]; exact List.mem_cons_self)
theorem all_C {l : List S69} {p : S69 → Bool} (h : ∀ i, i < l.length → p (rd_T69 l ((i : Nat) : Int)) = true) : l.all p = true := by
 rw [List.all_eq_true]
 intro x hx
 obtain ⟨i, hi, rfl⟩ := List.getElem_of_mem hx
 have := h i hi
 have e : rd_T69 l (i : Int) = l[i] := by simp [rd_T69, List.getD, hi]
 rw [← e]
 exact this
theorem all_F {l : List S46} {p : S46 → Bool} (h : ∀ i, i < l.length → p (rd_T46 l ((i : Nat) : Int)) = true) : l.all p = true := by
 rw [List.all_eq_true]
 intro x hx
 obtain ⟨i, hi, rfl⟩ := List.getElem_of_mem hx
 have := h i hi
 have e : rd_T46 l (i : Int) = l[i] := by simp [rd_T46, List.getD, hi]
 rw [← e]
 exact this
set_option maxHeartbeats 4000000 in
theorem check_calls (A0 : Option Addr) (c0 : Nat) (c : List S69) (A1 : Option Addr) (c1 : Nat) (f : List S46) (w : World) (hr0 : Kd.C k69 w A0 c.length c) (hc0 : c.length ≤ c0) (hr1 : Kd.C k46 w A1 f.length f) (hc1 : f.length ≤ c1) :
    Calls Try.prog 12 #[.slice A0 c.length c0, .slice A1 f.length c1] w fun e w' => e = .returned (.int .i64 (checkV c f)) ∧ Below w.heap.size w w' := by
 have HC := am hr0
 have HF := am hr1
 clear hr0 hr1
 go_enter Try.func12, Try.ntmps12
 by_cases hc : 4000 < c.length
 ·
  have hd : decide ((4000 : Int) < (c.length : Int)) = true := decide_eq_true (by omega)
  go_wp2
  go_ret
  exact ⟨by unfold checkV; rw [if_pos (.inl hc)]; rfl, Below.refl _ _⟩
 have hd : decide ((4000 : Int) < (c.length : Int)) = false := decide_eq_false (by omega)
 by_cases hf : 4000 < f.length
 ·
  have hd2 : decide ((4000 : Int) < (f.length : Int)) = true := decide_eq_true (by omega)
  go_wp2
  go_ret
  exact ⟨by unfold checkV; rw [if_pos (.inr hf)]; rfl, Below.refl _ _⟩
 have hd2 : decide ((4000 : Int) < (f.length : Int)) = false := decide_eq_false (by omega)
 have HN : Aside0 (¬(4000 < c.length ∨ 4000 < f.length)) := ⟨by omega⟩
 go_wp2
 go_loopg [30] c.length (fun kq v30 wr => ∃ k : Nat, k + kq = c.length ∧ v30 = .int .i64 (k : Int) ∧ Aside0 (∀ i : Nat, i < k → okC0 (rd_T69 c (i : Int)) = true) ∧ Aside0 (Below w.heap.size w wr))
 case atStart => exact ⟨0, by omega, rfl, ⟨fun i hi => absurd hi (by omega)⟩, ⟨(Below.refl _ _)⟩⟩
 case round =>
  obtain ⟨k, hk, rfl, HK, HB0⟩ := hrel
  cases gk with
  | succ gk =>
   have hlt : decide ((k : Int) < (c.length : Int)) = true := decide_eq_true (by omega)
   obtain ⟨ad, Ae, ce, rfl, z0, z1, hce, hCe⟩ := at_T69 (Kd.C_below HC.out HB0.out) (k : Int) (by omega) (by omega)
   rw [Int.toNat_natCast] at z0 z1
   have HCE := am hCe
   have HM := am (show ∀ b : Bool, okC0 (rd_T69 c (k : Int)) = b → b = true → ∀ i : Nat, i < k + 1 → okC0 (rd_T69 c (i : Int)) = true from fun b hb ht i hi => by
     rcases Nat.lt_or_eq_of_le (Nat.le_of_lt_succ hi) with h1 | h1
     · exact HK.out i h1
     · rw [h1, hb, ht])
   have HBAD := am (show ∀ hbad : okC0 (rd_T69 c (k : Int)) = false, checkV c f = 6 from fun hbad => by
     unfold checkV
     rw [if_neg HN.out]
     exact if_pos (all_bad (memC c k (by omega)) hbad))
   clear hCe HK
   generalize rd_T69 c (k : Int) = x at z0 z1 HCE HM HBAD hce
   by_cases hb : okC0 x = true
   ·
    have hx : decide ((3992 : Int) < (x.f1.length : Int)) = false := decide_eq_false (by unfold okC0 at hb; have := of_decide_eq_true hb; omega)
    go_wp2
    go_roundg gk
    case measure => omega
    case rel => exact ⟨k + 1, by omega, by go_num, ⟨HM.out _ hb rfl⟩, ⟨below_alloc HB0.out _⟩⟩
   have hx : decide ((3992 : Int) < (x.f1.length : Int)) = true := decide_eq_true (by unfold okC0 at hb; have : ¬ x.f1.length ≤ 3992 := fun h => hb (decide_eq_true h); omega)
   go_wp2
   go_ret
   exact ⟨by rw [HBAD.out (by simpa using hb)]; rfl, below_alloc HB0.out _⟩
  | zero =>
   have hlt : decide ((k : Int) < (c.length : Int)) = false := decide_eq_false (by omega)
   have HA0 : Aside0 (c.all okC0 = true) := ⟨all_C (fun i hi => HK.out i (by omega))⟩
   have hltn0 : decide (k < c.length) = false := decide_eq_false (by omega)
   clear HK hlt
   go_wp2
   try rw [hltn0]
   go_loopg [41] f.length (fun kq v41 wr => ∃ k : Nat, k + kq = f.length ∧ v41 = .int .i64 (k : Int) ∧ Aside0 (∀ i : Nat, i < k → okF0 (rd_T46 f (i : Int)) = true) ∧ Aside0 (Below w.heap.size w wr))
   case atStart => exact ⟨0, by omega, rfl, ⟨fun i hi => absurd hi (by omega)⟩, ⟨HB0.out⟩⟩
   case round =>
    obtain ⟨k, hk, rfl, HK, HB1⟩ := hrel
    cases gk with
    | succ gk =>
     have hlt : decide ((k : Int) < (f.length : Int)) = true := decide_eq_true (by omega)
     obtain ⟨ad, Ae, ce, rfl, z0, z1, z2, z3, hce, hCe⟩ := at_T46 (Kd.C_below HF.out HB1.out) (k : Int) (by omega) (by omega)
     rw [Int.toNat_natCast] at z0 z1 z2 z3
     have HCE := am hCe
     have HM := am (show ∀ b : Bool, okF0 (rd_T46 f (k : Int)) = b → b = true → ∀ i : Nat, i < k + 1 → okF0 (rd_T46 f (i : Int)) = true from fun b hb ht i hi => by
       rcases Nat.lt_or_eq_of_le (Nat.le_of_lt_succ hi) with h1 | h1
       · exact HK.out i h1
       · rw [h1, hb, ht])
     have HBAD := am (show ∀ hbad : okF0 (rd_T46 f (k : Int)) = false, checkV c f = 6 from fun hbad => by
       unfold checkV
       rw [if_neg HN.out]
       rw [if_neg (by rw [HA0.out]; decide)]
       exact if_pos (all_bad (memF f k (by omega)) hbad))
     clear hCe HK
     generalize rd_T46 f (k : Int) = x at z0 z1 z2 z3 HCE HM HBAD hce
     by_cases hb : okF0 x = true
     ·
      have hx : decide ((3992 : Int) < (x.f3.length : Int)) = false := decide_eq_false (by unfold okF0 at hb; have := of_decide_eq_true hb; omega)
      go_wp2
      go_roundg gk
      case measure => omega
      case rel => exact ⟨k + 1, by omega, by go_num, ⟨HM.out _ hb rfl⟩, ⟨below_alloc HB1.out _⟩⟩
     have hx : decide ((3992 : Int) < (x.f3.length : Int)) = true := decide_eq_true (by unfold okF0 at hb; have : ¬ x.f3.length ≤ 3992 := fun h => hb (decide_eq_true h); omega)
     go_wp2
     go_ret
     exact ⟨by rw [HBAD.out (by simpa using hb)]; rfl, below_alloc HB1.out _⟩
    | zero =>
     have hlt : decide ((k : Int) < (f.length : Int)) = false := decide_eq_false (by omega)
     have HA1 : Aside0 (f.all okF0 = true) := ⟨all_F (fun i hi => HK.out i (by omega))⟩
     have hltn1 : decide (k < f.length) = false := decide_eq_false (by omega)
     clear HK hlt
     go_wp2
     try rw [hltn0]
     try rw [hltn1]
     go_loopg [52] c.length (fun kq v52 wr => ∃ k : Nat, k + kq = c.length ∧ v52 = .int .i64 (k : Int) ∧ Aside0 (∀ i : Nat, i < k → okC1 (rd_T69 c (i : Int)) = true) ∧ Aside0 (Below w.heap.size w wr))
     case atStart => exact ⟨0, by omega, rfl, ⟨fun i hi => absurd hi (by omega)⟩, ⟨HB1.out⟩⟩
     case round =>
      obtain ⟨k, hk, rfl, HK, HB2⟩ := hrel
      cases gk with
      | succ gk =>
       have hlt : decide ((k : Int) < (c.length : Int)) = true := decide_eq_true (by omega)
       obtain ⟨ad, Ae, ce, rfl, z0, z1, hce, hCe⟩ := at_T69 (Kd.C_below HC.out HB2.out) (k : Int) (by omega) (by omega)
       rw [Int.toNat_natCast] at z0 z1
       have HCE := am hCe
       have HM := am (show ∀ b : Bool, okC1 (rd_T69 c (k : Int)) = b → b = true → ∀ i : Nat, i < k + 1 → okC1 (rd_T69 c (i : Int)) = true from fun b hb ht i hi => by
         rcases Nat.lt_or_eq_of_le (Nat.le_of_lt_succ hi) with h1 | h1
         · exact HK.out i h1
         · rw [h1, hb, ht])
       have HBAD := am (show ∀ hbad : okC1 (rd_T69 c (k : Int)) = false, checkV c f = 140 from fun hbad => by
         unfold checkV
         rw [if_neg HN.out]
         rw [if_neg (by rw [HA0.out]; decide)]
         rw [if_neg (by rw [HA1.out]; decide)]
         exact if_pos (all_bad (memC c k (by omega)) hbad))
       clear hCe HK
       generalize rd_T69 c (k : Int) = x at z0 z1 HCE HM HBAD hce
       obtain ⟨s, g, q, o, hof⟩ : ∃ s g q o, ofF x.f0 = (s, g, q, o) := ⟨_, _, _, _, rfl⟩
       go_wp2_with fail
       have ho := of_calls x.f0 (wr.alloc (.cells #[.int .i64 x.f0, .slice Ae x.f1.length ce] 69))
       rw [hof] at ho
       refine ho.mono ?_
       rintro e w' ⟨rfl, hB'⟩
       have HB' := am (below_then (below_alloc HB2.out _) (below_alloc HB2.out _).size hB')
       clear ho hB'
       have ho : okC1 x = o := by unfold okC1; rw [hof]
       clear hof
       cases o with
       | true =>
        have hb := ho
        clear ho
        go_wp2
        go_roundg gk
        case measure => omega
        case rel => exact ⟨k + 1, by omega, by go_num, ⟨HM.out _ hb rfl⟩, ⟨below_alloc HB'.out _⟩⟩
       | false =>
        have hb := ho
        clear ho
        go_wp2
        go_ret
        exact ⟨by rw [HBAD.out hb]; rfl, below_alloc HB'.out _⟩
      | zero =>
       have hlt : decide ((k : Int) < (c.length : Int)) = false := decide_eq_false (by omega)
       have HA2 : Aside0 (c.all okC1 = true) := ⟨all_C (fun i hi => HK.out i (by omega))⟩
       have hltn2 : decide (k < c.length) = false := decide_eq_false (by omega)
       clear HK hlt
       go_wp2
       try rw [hltn0]
       try rw [hltn1]
       try rw [hltn2]
       go_loopg [68] f.length (fun kq v68 wr => ∃ k : Nat, k + kq = f.length ∧ v68 = .int .i64 (k : Int) ∧ Aside0 (∀ i : Nat, i < k → okF1 c.length (rd_T46 f (i : Int)) = true) ∧ Aside0 (Below w.heap.size w wr))
       case atStart => exact ⟨0, by omega, rfl, ⟨fun i hi => absurd hi (by omega)⟩, ⟨HB2.out⟩⟩
       case round =>
        obtain ⟨k, hk, rfl, HK, HB3⟩ := hrel
        cases gk with
        | succ gk =>
         have hlt : decide ((k : Int) < (f.length : Int)) = true := decide_eq_true (by omega)
         obtain ⟨ad, Ae, ce, rfl, z0, z1, z2, z3, hce, hCe⟩ := at_T46 (Kd.C_below HF.out HB3.out) (k : Int) (by omega) (by omega)
         rw [Int.toNat_natCast] at z0 z1 z2 z3
         have HCE := am hCe
         have HM := am (show ∀ b : Bool, okF1 c.length (rd_T46 f (k : Int)) = b → b = true → ∀ i : Nat, i < k + 1 → okF1 c.length (rd_T46 f (i : Int)) = true from fun b hb ht i hi => by
           rcases Nat.lt_or_eq_of_le (Nat.le_of_lt_succ hi) with h1 | h1
           · exact HK.out i h1
           · rw [h1, hb, ht])
         have HBAD := am (show ∀ hbad : okF1 c.length (rd_T46 f (k : Int)) = false, checkV c f = 140 from fun hbad => by
           unfold checkV
           rw [if_neg HN.out]
           rw [if_neg (by rw [HA0.out]; decide)]
           rw [if_neg (by rw [HA1.out]; decide)]
           rw [if_neg (by rw [HA2.out]; decide)]
           exact if_pos (all_bad (memF f k (by omega)) hbad))
         clear hCe HK
         generalize rd_T46 f (k : Int) = x at z0 z1 z2 z3 HCE HM HBAD hce
         have HO := am (show okF1 c.length x = (decide (0 ≤ x.f0) && decide (x.f0 < c.length) && !farB x.f1 && decide (0 ≤ x.f2) && decide (x.f2 ≤ 1048576)) from rfl)
         by_cases e0 : x.f0 < 0
         ·
          have h0 : decide (x.f0 < 0) = true := decide_eq_true e0
          have hb : okF1 c.length x = false := by rw [HO.out, decide_eq_false (show ¬ 0 ≤ x.f0 by omega)]; rfl
          go_wp2
          go_ret
          exact ⟨by rw [HBAD.out hb]; rfl, below_alloc HB3.out _⟩
         have h0 : decide (x.f0 < 0) = false := decide_eq_false e0
         by_cases e1 : (c.length : Int) ≤ x.f0
         ·
          have h1 : decide ((c.length : Int) ≤ x.f0) = true := decide_eq_true e1
          have hb : okF1 c.length x = false := by rw [HO.out, decide_eq_false (show ¬ x.f0 < (c.length : Int) by omega), Bool.and_false]; rfl
          go_wp2
          go_ret
          exact ⟨by rw [HBAD.out hb]; rfl, below_alloc HB3.out _⟩
         have h1 : decide ((c.length : Int) ≤ x.f0) = false := decide_eq_false e1
         go_wp2_with fail
         obtain ⟨u1, hu1⟩ : ∃ u1, u1 = wr.alloc (.cells #[.int .i64 x.f0, .int .i64 x.f1, .int .i64 x.f2, .slice Ae x.f3.length ce] 46) := ⟨_, rfl⟩
         have HU1 : Aside0 (Below w.heap.size w u1) := ⟨by rw [hu1]; exact below_alloc HB3.out _⟩
         have hG1 := blk_new wr (.cells #[.int .i64 x.f0, .int .i64 x.f1, .int .i64 x.f2, .slice Ae x.f3.length ce] 46)
         have hs1 : u1.heap.size = wr.heap.size + 1 := by rw [hu1]; simp
         rw [← hu1] at hG1 ⊢
         obtain ⟨u2, hu2⟩ : ∃ u2, u2 = u1.alloc (.cells #[.int .i64 x.f1] 3) := ⟨_, rfl⟩
         have HU2 : Aside0 (Below w.heap.size w u2) := ⟨by rw [hu2]; exact below_alloc HU1.out _⟩
         have hN := blk_new u1 (.cells #[.int .i64 x.f1] 3)
         have hG2 := blk_alloc hG1 (.cells #[.int .i64 x.f1] 3)
         rw [hs1] at hN
         rw [← hu2] at hN hG2 ⊢
         clear hu1 hu2 hG1 hs1
         have hcall := ehframe_near.calls 4 (some ⟨wr.heap.size + 1, 0, none⟩) 1 [x.f1] (!farB x.f1) u2 (C_blk (Kd.int .i64) (xs := [x.f1]) hN ((Reps.none _ _).snoc rfl rfl) (by simp)) (by simp) (near1 x.f1 4 (by omega))
         refine hcall.mono ?_
         rintro e w' ⟨rfl, q, rfl⟩
         have HB' := am (pw_below_drewN HU2.out q)
         have y2 : u2.cell? ⟨wr.heap.size, 2, none⟩ = some (.int .i64 x.f2) := (blk_cell hG2 2).trans rfl
         clear hcall hG2
         clear hN
         cases e2 : farB x.f1 with
         | true =>
          have hb : okF1 c.length x = false := by rw [HO.out, e2]; simp
          go_wp2
          go_ret
          exact ⟨by rw [HBAD.out hb]; rfl, HB'.out⟩
         | false =>
          by_cases e3 : x.f2 < 0
          ·
           have h3 : decide (x.f2 < 0) = true := decide_eq_true e3
           have hb : okF1 c.length x = false := by rw [HO.out, decide_eq_false (show ¬ 0 ≤ x.f2 by omega)]; simp
           go_wp2
           go_ret
           exact ⟨by rw [HBAD.out hb]; rfl, HB'.out⟩
          have h3 : decide (x.f2 < 0) = false := decide_eq_false e3
          by_cases e4 : 1048576 < x.f2
          ·
           have h4 : decide (1048576 < x.f2) = true := decide_eq_true e4
           have hb : okF1 c.length x = false := by rw [HO.out, decide_eq_false (show ¬ x.f2 ≤ 1048576 by omega)]; simp
           go_wp2
           go_ret
           exact ⟨by rw [HBAD.out hb]; rfl, HB'.out⟩
          have h4 : decide (1048576 < x.f2) = false := decide_eq_false e4
          have hb : okF1 c.length x = true := by rw [HO.out, e2, decide_eq_true (show 0 ≤ x.f0 by omega), decide_eq_true (show x.f0 < (c.length : Int) by omega), decide_eq_true (show 0 ≤ x.f2 by omega), decide_eq_true (show x.f2 ≤ 1048576 by omega)]; rfl
          go_wp2
          go_roundg gk
          case measure => omega
          case rel => exact ⟨k + 1, by omega, by go_num, ⟨HM.out _ hb rfl⟩, ⟨HB'.out⟩⟩
        | zero =>
         have hlt : decide ((k : Int) < (f.length : Int)) = false := decide_eq_false (by omega)
         have HA3 : Aside0 (f.all (okF1 c.length) = true) := ⟨all_F (fun i hi => HK.out i (by omega))⟩
         have hltn3 : decide (k < f.length) = false := decide_eq_false (by omega)
         clear HK hlt
         go_wp2
         try rw [hltn0]
         try rw [hltn1]
         try rw [hltn2]
         try rw [hltn3]
         go_loopg [102] c.length (fun kq v102 wr => ∃ k : Nat, k + kq = c.length ∧ v102 = .int .i64 (k : Int) ∧ Aside0 (∀ i : Nat, i < k → okC2 (rd_T69 c (i : Int)) = true) ∧ Aside0 (Below w.heap.size w wr))
         case atStart => exact ⟨0, by omega, rfl, ⟨fun i hi => absurd hi (by omega)⟩, ⟨HB3.out⟩⟩
         case round =>
          obtain ⟨k, hk, rfl, HK, HB4⟩ := hrel
          cases gk with
          | succ gk =>
           have hlt : decide ((k : Int) < (c.length : Int)) = true := decide_eq_true (by omega)
           obtain ⟨ad, Ae, ce, rfl, z0, z1, hce, hCe⟩ := at_T69 (Kd.C_below HC.out HB4.out) (k : Int) (by omega) (by omega)
           rw [Int.toNat_natCast] at z0 z1
           have HCE := am hCe
           have HM := am (show ∀ b : Bool, okC2 (rd_T69 c (k : Int)) = b → b = true → ∀ i : Nat, i < k + 1 → okC2 (rd_T69 c (i : Int)) = true from fun b hb ht i hi => by
             rcases Nat.lt_or_eq_of_le (Nat.le_of_lt_succ hi) with h1 | h1
             · exact HK.out i h1
             · rw [h1, hb, ht])
           have HBAD := am (show ∀ hbad : okC2 (rd_T69 c (k : Int)) = false, checkV c f = 130 from fun hbad => by
             unfold checkV
             rw [if_neg HN.out]
             rw [if_neg (by rw [HA0.out]; decide)]
             rw [if_neg (by rw [HA1.out]; decide)]
             rw [if_neg (by rw [HA2.out]; decide)]
             rw [if_neg (by rw [HA3.out]; decide)]
             exact if_pos (all_bad (memC c k (by omega)) hbad))
           clear hCe HK
           generalize rd_T69 c (k : Int) = x at z0 z1 HCE HM HBAD hce
           obtain ⟨R, hR⟩ : ∃ R, Cfa.rowsOf (Cfa.opl x.f1) (Cfa.opl []) 0 = R := ⟨_, rfl⟩
           have ho : okC2 x = decide (R.2 = 0) := by unfold okC2; rw [hR]
           go_wp2_with fail
           refine (Cfa.check_calls Ae ce x.f1 none 0 [] 0 _ (Kd.C_alloc HCE.out _) (Kd.C_nil _ _) R hR).mono ?_
           rintro e w' ⟨rfl, hB'⟩
           have HB' := am (below_then (below_alloc HB4.out _) (below_alloc HB4.out _).size hB')
           clear hB' hR
           by_cases e0 : R.2 = 0
           ·
            have hx : (R.2 != 0) = false := by simp [e0]
            have hb : okC2 x = true := by rw [ho, decide_eq_true e0]
            go_wp2
            go_roundg gk
            case measure => omega
            case rel => exact ⟨k + 1, by omega, by go_num, ⟨HM.out _ hb rfl⟩, ⟨HB'.out⟩⟩
           have hx : (R.2 != 0) = true := by simp [e0]
           have hb : okC2 x = false := by rw [ho, decide_eq_false e0]
           go_wp2
           go_ret
           exact ⟨by rw [HBAD.out hb]; rfl, HB'.out⟩
          | zero =>
           have hlt : decide ((k : Int) < (c.length : Int)) = false := decide_eq_false (by omega)
           have HA4 : Aside0 (c.all okC2 = true) := ⟨all_C (fun i hi => HK.out i (by omega))⟩
           have hltn4 : decide (k < c.length) = false := decide_eq_false (by omega)
           clear HK hlt
           go_wp2
           try rw [hltn0]
           try rw [hltn1]
           try rw [hltn2]
           try rw [hltn3]
           try rw [hltn4]
           go_loopg [113] f.length (fun kq v113 wr => ∃ k : Nat, k + kq = f.length ∧ v113 = .int .i64 (k : Int) ∧ Aside0 (∀ i : Nat, i < k → okF2 c (rd_T46 f (i : Int)) = true) ∧ Aside0 (Below w.heap.size w wr))
           case atStart => exact ⟨0, by omega, rfl, ⟨fun i hi => absurd hi (by omega)⟩, ⟨HB4.out⟩⟩
           case round =>
            obtain ⟨k, hk, rfl, HK, HB5⟩ := hrel
            cases gk with
            | succ gk =>
             have hlt : decide ((k : Int) < (f.length : Int)) = true := decide_eq_true (by omega)
             obtain ⟨ad, Ae, ce, rfl, z0, z1, z2, z3, hce, hCe⟩ := at_T46 (Kd.C_below HF.out HB5.out) (k : Int) (by omega) (by omega)
             rw [Int.toNat_natCast] at z0 z1 z2 z3
             have HCE := am hCe
             have HM := am (show ∀ b : Bool, okF2 c (rd_T46 f (k : Int)) = b → b = true → ∀ i : Nat, i < k + 1 → okF2 c (rd_T46 f (i : Int)) = true from fun b hb ht i hi => by
               rcases Nat.lt_or_eq_of_le (Nat.le_of_lt_succ hi) with h1 | h1
               · exact HK.out i h1
               · rw [h1, hb, ht])
             have HBAD := am (show ∀ hbad : okF2 c (rd_T46 f (k : Int)) = false, checkV c f = 130 from fun hbad => by
               unfold checkV
               rw [if_neg HN.out]
               rw [if_neg (by rw [HA0.out]; decide)]
               rw [if_neg (by rw [HA1.out]; decide)]
               rw [if_neg (by rw [HA2.out]; decide)]
               rw [if_neg (by rw [HA3.out]; decide)]
               rw [if_neg (by rw [HA4.out]; decide)]
               exact if_pos (all_bad (memF f k (by omega)) hbad))
             clear hCe HK
             have hok := List.all_eq_true.1 HA3.out _ (memF f k (by omega))
             generalize rd_T46 f (k : Int) = x at z0 z1 z2 z3 HCE HM HBAD hok hce
             unfold okF1 at hok
             simp only [Bool.and_eq_true, decide_eq_true_eq] at hok
             obtain ⟨⟨⟨⟨o0, o1⟩, _⟩, _⟩, _⟩ := hok
             obtain ⟨adc, Ac, cc, rfl, y0, y1, hcc, hCc⟩ := at_T69 (Kd.C_below HC.out HB5.out) x.f0 o0 o1
             have HCC := am hCc
             obtain ⟨R, hR⟩ : ∃ R, Cfa.rowsOf (Cfa.opl (rd_T69 c x.f0).f1) (Cfa.opl x.f3) x.f2 = R := ⟨_, rfl⟩
             have ho : okF2 c x = decide (R.2 = 0) := by unfold okF2; rw [hR]
             generalize rd_T69 c x.f0 = y at y0 y1 hcc HCC hR
             clear hCc y0
             go_upto_region 37 with fail
             have hG := blk_new wr (.cells #[.int .i64 x.f0, .int .i64 x.f1, .int .i64 x.f2, .slice Ae x.f3.length ce] 46)
             have hBg := below_alloc (Below.refl wr.heap.size wr) (.cells #[.int .i64 x.f0, .int .i64 x.f1, .int .i64 x.f2, .slice Ae x.f3.length ce] 46)
             obtain ⟨u, hu⟩ : ∃ u, u = wr.alloc (.cells #[.int .i64 x.f0, .int .i64 x.f1, .int .i64 x.f2, .slice Ae x.f3.length ce] 46) := ⟨_, rfl⟩
             rw [← hu] at hG hBg ⊢
             have HU := am (below_then HB5.out HB5.out.size hBg)
             have HCE' := am (Kd.C_below HCE.out hBg)
             have HCC' := am (Kd.C_below HCC.out hBg)
             have y1' := pw_cell_below hBg y1
             clear hu hBg z0 z1 z2 z3 y1
             refine start_ (n := 12) (S := fun u => u.cell? ⟨wr.heap.size, 0, none⟩ = some (.int .i64 x.f0) ∧ u.cell? ⟨wr.heap.size, 3, none⟩ = some (.slice Ae x.f3.length ce) ∧ u.cell? ⟨wr.heap.size, 2, none⟩ = some (.int .i64 x.f2) ∧ u.cell? ⟨(adc.add (x.f0.toNat * 2)).block, (adc.add (x.f0.toNat * 2)).off + 1, none⟩ = some (.slice Ac y.f1.length cc)) (ds := [10]) (bm 12 0) (by kernel_rfl) rfl rfl ?_ (fun hHeld => ?_)
             case refine_1 => exact ⟨(blk_cell (blk_drew hG) 0).trans rfl, (blk_cell (blk_drew hG) 3).trans rfl, (blk_cell (blk_drew hG) 2).trans rfl, y1'⟩
             refine pure_ (i := 0) (N := some 117) (v := ?_) (a' := ?_) (bm 12 1) rfl rfl (by kernel_rfl) (fun _ _ _ h => h) (Or.inl ⟨by rfl, ?_⟩) ?_ ?_
             rotate_left
             ·
              intro u
              go_simp
              with_reducible rfl
             rotate_left
             ·
              simp only [pz]
              rfl
             refine pure_ (i := 1) (N := some 118) (v := ?_) (a' := ?_) (bm 12 3) rfl rfl (by kernel_rfl) (fun _ _ _ h => h) (Or.inl ⟨by rfl, ?_⟩) ?_ ?_
             rotate_left
             ·
              intro u
              go_simp
              with_reducible rfl
             rotate_left
             ·
              simp only [pz]
              rfl
             refine take_ (i := 2) (N := some 119) (v := ?_) (a' := ?_) (bm 12 7) rfl rfl (by kernel_rfl) (fun _ _ _ h => h) (Or.inl ⟨by rfl, ?_⟩) hHeld ?_ ?_
             rotate_left
             ·
              rintro u ⟨s0, s1, s2, s3⟩
              go_simp
              with_reducible rfl
             rotate_left
             ·
              simp only [pz]
              rfl
             refine pure_ (i := 3) (N := some 120) (v := ?_) (a' := ?_) (bm 12 15) rfl rfl (by kernel_rfl) (fun _ _ _ h => h) (Or.inl ⟨by rfl, ?_⟩) ?_ ?_
             rotate_left
             ·
              intro u
              go_simp
              with_reducible rfl
             rotate_left
             ·
              simp only [pz]
              rfl
             refine pure_ (i := 4) (N := some 121) (v := ?_) (a' := ?_) (bm 12 31) rfl rfl (by kernel_rfl) (fun _ _ _ h => h) (Or.inl ⟨by rfl, ?_⟩) ?_ ?_
             rotate_left
             ·
              intro u
              go_simp
              with_reducible rfl
             rotate_left
             ·
              simp only [pz]
              rfl
             refine take_ (i := 5) (N := some 122) (v := ?_) (a' := ?_) (bm 12 63) rfl rfl (by kernel_rfl) (fun _ _ _ h => h) (Or.inl ⟨by rfl, ?_⟩) hHeld ?_ ?_
             rotate_left
             ·
              rintro u ⟨s0, s1, s2, s3⟩
              go_simp
              with_reducible rfl
             rotate_left
             ·
              simp only [pz]
              rfl
             refine pure_ (i := 6) (N := some 123) (v := ?_) (a' := ?_) (bm 12 127) rfl rfl (by kernel_rfl) (fun _ _ _ h => h) (Or.inl ⟨by rfl, ?_⟩) ?_ ?_
             rotate_left
             ·
              intro u
              go_simp
              with_reducible rfl
             rotate_left
             ·
              simp only [pz]
              rfl
             refine take_ (i := 7) (N := some 124) (v := ?_) (a' := ?_) (bm 12 255) rfl rfl (by kernel_rfl) (fun _ _ _ h => h) (Or.inl ⟨by rfl, ?_⟩) hHeld ?_ ?_
             rotate_left
             ·
              rintro u ⟨s0, s1, s2, s3⟩
              go_simp
              with_reducible rfl
             rotate_left
             ·
              simp only [pz]
              rfl
             refine pure_ (i := 8) (N := some 125) (v := ?_) (a' := ?_) (bm 12 511) rfl rfl (by kernel_rfl) (fun _ _ _ h => h) (Or.inl ⟨by rfl, ?_⟩) ?_ ?_
             rotate_left
             ·
              intro u
              go_simp
              with_reducible rfl
             rotate_left
             ·
              simp only [pz]
              rfl
             refine take_ (i := 9) (N := some 126) (v := ?_) (a' := ?_) (bm 12 1023) rfl rfl (by kernel_rfl) (fun _ _ _ h => h) (Or.inl ⟨by rfl, ?_⟩) hHeld ?_ ?_
             rotate_left
             ·
              rintro u ⟨s0, s1, s2, s3⟩
              go_simp
              with_reducible rfl
             rotate_left
             ·
              simp only [pz]
              rfl
             refine last_ (i := 10) (N := some 127) (bm 12 2047) rfl rfl (by kernel_rfl) (by decide) (fun K hK => ?_)
             refine call_ 31 #[.slice Ac y.f1.length cc, .slice Ae x.f3.length ce, .int .i64 x.f2] (by rfl) rfl (by go_simp) ?_
             refine (Cfa.check_calls Ac cc y.f1 Ae ce x.f3 x.f2 _ (Kd.C_drew HCC'.out) (Kd.C_drew HCE'.out) R hR).mono ?_
             rintro e w' ⟨rfl, hB'⟩
             refine ⟨_, rfl, ?_⟩
             have HB' := am (below_then (below_drew HU.out) (below_drew HU.out).size hB')
             clear hB' hR hHeld
             refine hK.out _ _ ?_
             clear hK K
             refine norm_ (a' := ?_) ?_ ?_
             rotate_left
             ·
              show Act.put _ (some 127) _ = _
              simp only [pz]
              rfl
             refine pure_ (i := 11) (N := some 128) (v := ?_) (a' := ?_) (bm 12 4095) rfl rfl (by kernel_rfl) (fun _ _ _ h => h) (Or.inl ⟨by rfl, ?_⟩) ?_ ?_
             rotate_left
             ·
              intro u
              go_simp
              with_reducible rfl
             rotate_left
             ·
              simp only [pz]
              rfl
             refine done_ (by kernel_rfl) ?_
             by_cases e0 : R.2 = 0
             ·
              have hx : (R.2 != 0) = false := by simp [e0]
              have hb : okF2 c x = true := by rw [ho, decide_eq_true e0]
              go_wp2
              go_roundg gk
              case measure => omega
              case rel => exact ⟨k + 1, by omega, by go_num, ⟨HM.out _ hb rfl⟩, ⟨HB'.out⟩⟩
             have hx : (R.2 != 0) = true := by simp [e0]
             have hb : okF2 c x = false := by rw [ho, decide_eq_false e0]
             go_wp2
             go_ret
             exact ⟨by rw [HBAD.out hb]; rfl, HB'.out⟩
            | zero =>
             have hlt : decide ((k : Int) < (f.length : Int)) = false := decide_eq_false (by omega)
             have HA5 : Aside0 (f.all (okF2 c) = true) := ⟨all_F (fun i hi => HK.out i (by omega))⟩
             have hltn5 : decide (k < f.length) = false := decide_eq_false (by omega)
             clear HK hlt
             go_wp2
             go_ret
             refine ⟨?_, HB5.out⟩
             unfold checkV
             rw [if_neg HN.out, HA0.out, HA1.out, HA2.out, HA3.out, HA4.out, HA5.out]
             rfl
end Go.Proofs.Ytfgfnflhdabmcaa.Eh
end
section
namespace Go.Proofs.Ytfgfnflhdabmcaa.G
open Go.RowKit Go.Proofs.YtfgfnflhdabmcaaW.PrintWords Go.Proofs.YtfgfnflhdabmcaaW.PrintLast Go.Proofs.YtfgfnflhdabmcaaW.PrintMore
attribute [local go_sem] max2_int min2_int max_two min_two max_three min_three max_four min_four
def ehframe_Check.f (k : Nat) (l0 : List S69) (l1 : List S46) : Option Int := some (Eh.checkV l0 l1)
theorem ehframe_Check.mono : ∀ a0 a1 k, LeO (ehframe_Check.f k a0 a1) (ehframe_Check.f (k + 1) a0 a1) := fun _ _ _ => LeO.refl _
theorem ehframe_Check.calls (k : Nat) (A0 : Option Addr) (c0 : Nat) (l0 : List S69) (A1 : Option Addr) (c1 : Nat) (l1 : List S46) (r : Int) (w : World) (hr0 : Kd.C k69 w A0 l0.length l0) (hc0 : l0.length ≤ c0) (hr1 : Kd.C k46 w A1 l1.length l1) (hc1 : l1.length ≤ c1) (h : ehframe_Check.f k l0 l1 = some r) :
    Calls Try.prog 12 #[.slice A0 l0.length c0, .slice A1 l1.length c1] w fun e w' => e = .returned (.int .i64 r) ∧ Below w.heap.size w w' := by
 obtain rfl := Option.some.inj h
 exact Eh.check_calls A0 c0 l0 A1 c1 l1 w hr0 hc0 hr1 hc1
end Go.Proofs.Ytfgfnflhdabmcaa.G
end
section
namespace Go.Proofs.Ytfgfnflhdabmcaa.Bit
open Go.RowKit Go.Proofs.YtfgfnflhdabmcaaW.PrintWords Go.Proofs.YtfgfnflhdabmcaaW.PrintMore
theorem wrap_u64 (n : Int) : IntKind.u64.wrap n = n % 18446744073709551616 := IntKind.wrap_u64 n
theorem wrap64_eq (n : Int) : wrap64 n = (n + 9223372036854775808) % 18446744073709551616 - 9223372036854775808 := by unfold wrap64; omega
theorem wrap64_id {n : Int} (h0 : -9223372036854775808 ≤ n) (h1 : n ≤ 9223372036854775807) : wrap64 n = n := by unfold wrap64; omega
theorem wf_u8 {a : Int} (h : (Lit.int .u8 a).wf = true) : 0 ≤ a ∧ a ≤ 255 := by
  simpa [Lit.wf, IntKind.min, IntKind.max, IntKind.signed, IntKind.bits] using h
theorem byte_all {P : Int → Prop} (h : ∀ i : Fin 256, P (i.val : Int)) (x : Int) (h0 : 0 ≤ x) (h1 : x < 256) : P x := by
  obtain ⟨n, rfl⟩ := Int.eq_ofNat_of_zero_le h0
  exact h ⟨n, by omega⟩
theorem b_or128 (x : Int) : Go.bits .or .u8 (x % 256) 128 = x % 128 + 128 := by
  have h := byte_all (P := fun y => Go.bits .or .u8 y 128 = y % 128 + 128) (by decide +kernel) (x % 256) (by omega) (by omega)
  rw [h]
  omega
theorem b_and127 (x : Int) : Go.bits .and .u8 (x % 256) 127 = x % 128 := by
  have h := byte_all (P := fun y => Go.bits .and .u8 y 127 = y % 128) (by decide +kernel) (x % 256) (by omega) (by omega)
  rw [h]
  omega
theorem b_and127' (x : Int) (h0 : 0 ≤ x) (h1 : x < 256) : Go.bits .and .u8 x 127 = x % 128 := by
  have := b_and127 x
  rwa [Int.emod_eq_of_lt h0 h1] at this
theorem ofInt_toNat (b : Nat) (x : Int) : ((BitVec.ofInt b x).toNat : Int) = x % (2 ^ b : Nat) := by
  rw [BitVec.toNat_ofInt]
  have : (0 : Int) ≤ x % (2 ^ b : Nat) := Int.emod_nonneg _ (by have := Nat.two_pow_pos b; omega)
  omega
theorem i64_mask (x : Int) (i : Nat) (hi : i ≤ 62) : Go.bits .and .i64 x (2 ^ i - 1) = x % 2 ^ i := by
  have hpos : 0 < 2 ^ i := Nat.two_pow_pos i
  have hle : 2 ^ i ≤ 2 ^ 62 := Nat.pow_le_pow_right (by decide) hi
  have h62 : (2 : Nat) ^ 62 = 4611686018427387904 := by decide
  have hc : ((2 : Int) ^ i - 1) = ((2 ^ i - 1 : Nat) : Int) := by rw [Int.natCast_sub hpos]; simp
  have e1 : (BitVec.ofInt 64 ((2 ^ i - 1 : Nat) : Int)).toNat = 2 ^ i - 1 := by
    rw [BitVec.ofInt_natCast, BitVec.toNat_ofNat]
    exact Nat.mod_eq_of_lt (by omega)
  show IntKind.i64.wrap ((BitVec.ofInt 64 x &&& BitVec.ofInt 64 (2 ^ i - 1)).toNat : Int) = _
  rw [hc, BitVec.toNat_and, e1, Nat.and_two_pow_sub_one_eq_mod]
  have e2 := ofInt_toNat 64 x
  have e3 : (((BitVec.ofInt 64 x).toNat % 2 ^ i : Nat) : Int) = x % 2 ^ i := by
    rw [Int.natCast_emod, e2]
    have hd : (2 ^ i : Int) ∣ ((2 ^ 64 : Nat) : Int) := ⟨2 ^ (64 - i), by
      rw [← Int.pow_add, show i + (64 - i) = 64 from by omega]
      rfl⟩
    have := Int.emod_emod_of_dvd x hd
    simpa using this
  rw [e3, IntKind.wrap_i64]
  have h0 : 0 ≤ x % 2 ^ i := Int.emod_nonneg _ (by have : (0 : Int) < 2 ^ i := by exact_mod_cast hpos
                                                   omega)
  have h1 : x % 2 ^ i < 2 ^ i := Int.emod_lt_of_pos _ (by exact_mod_cast hpos)
  have h2 : (2 : Int) ^ i ≤ 4611686018427387904 := by
    have : ((2 ^ i : Nat) : Int) ≤ ((2 ^ 62 : Nat) : Int) := by exact_mod_cast hle
    rw [h62] at this
    simpa using this
  omega
theorem or_comm (k : IntKind) (x y : Int) : Go.bits .or k x y = Go.bits .or k y x := by
  show k.wrap ((BitVec.ofInt k.bits x ||| BitVec.ofInt k.bits y).toNat : Int) = k.wrap ((BitVec.ofInt k.bits y ||| BitVec.ofInt k.bits x).toNat : Int)
  rw [BitVec.or_comm]
theorem wraps_u64 (n : Int) (h₀ : 0 ≤ n) (h₁ : n < 2 ^ 64) : IntKind.u64.wrap n = n := by rw [IntKind.wrap_u64]; omega
theorem u64_join (u v : Int) (i : Nat) (hu0 : 0 ≤ u) (hu : u < 2 ^ i) (hv0 : 0 ≤ v) (hv : v % 2 ^ i = 0) (hv1 : v < 18446744073709551616) (hu1 : u < 18446744073709551616) : Go.bits .or .u64 u v = u + v := by
  rw [or_comm, bits_join .u64 64 (by decide) wraps_u64 i v u hv0 hv (by omega) hu0 hu (by omega)]
  omega
end Go.Proofs.Ytfgfnflhdabmcaa.Bit
end
section
namespace Go.Proofs.Ytfgfnflhdabmcaa.Leb
open Go.RowKit Go.Proofs.Ytfgfnflhdabmcaa.G Go.Proofs.YtfgfnflhdabmcaaW.PrintWords Go.Proofs.YtfgfnflhdabmcaaW.PrintLast Go.Proofs.YtfgfnflhdabmcaaW.PrintMore Go.Proofs.Ytfgfnflhdabmcaa.Bit
def ulebL (u : Nat) : List Int := if h : 127 < u then ((u % 128 + 128 : Nat) : Int) :: ulebL (u / 128) else [(u : Int)]
termination_by u
decreasing_by omega
def slebL (n : Int) : List Int := if h : n < -64 ∨ 63 < n then (n % 128 + 128) :: slebL (n / 128) else [n % 128]
termination_by n.natAbs
decreasing_by omega
theorem ulebL_big {u : Nat} (h : 127 < u) : ulebL u = ((u % 128 + 128 : Nat) : Int) :: ulebL (u / 128) := by rw [ulebL, dif_pos h]
theorem ulebL_small {u : Nat} (h : ¬ 127 < u) : ulebL u = [(u : Int)] := by rw [ulebL, dif_neg h]
theorem slebL_big {n : Int} (h : n < -64 ∨ 63 < n) : slebL n = (n % 128 + 128) :: slebL (n / 128) := by rw [slebL, dif_pos h]
theorem slebL_small {n : Int} (h : ¬ (n < -64 ∨ 63 < n)) : slebL n = [n % 128] := by rw [slebL, dif_neg h]
theorem uleb_l0 (d : Nat) : ∀ (k u : Nat) (acc : List Int), u < 128 ^ (d + 1) → d < k → acc.length + d ≤ 1000 → leb_Uleb.l0 k acc (u : Int) = some (acc ++ ulebL u) := by
  induction d with
  | zero =>
    intro k u acc hu hk ha
    obtain ⟨k, rfl⟩ : ∃ m, k = m + 1 := ⟨k - 1, by omega⟩
    have hu' : u < 128 := by simpa using hu
    simp only [leb_Uleb.l0]
    rw [if_neg (by omega), if_pos (by omega), ulebL_small (by omega), show ((u : Int)) % 256 = u from by omega]
  | succ d ih =>
    intro k u acc hu hk ha
    obtain ⟨k, rfl⟩ : ∃ m, k = m + 1 := ⟨k - 1, by omega⟩
    simp only [leb_Uleb.l0]
    by_cases h : 127 < u
    · rw [if_pos (by omega), if_pos (by omega), b_or128]
      have hd : u / 128 < 128 ^ (d + 1) := by rw [Nat.pow_succ] at hu; omega
      have := ih k (u / 128) (acc ++ [((u % 128 + 128 : Nat) : Int)]) hd (by omega) (by simp; omega)
      rw [show ((u : Int)) % 128 + 128 = ((u % 128 + 128 : Nat) : Int) from by omega, show ((u : Int)) / 128 = ((u / 128 : Nat) : Int) from by omega, this, ulebL_big h]
      simp
    · rw [if_neg (by omega), if_pos (by omega), ulebL_small h, show ((u : Int)) % 256 = u from by omega]
theorem uleb_f (a : Int) (k : Nat) (hk : 10 ≤ k) : leb_Uleb.f k a = some (ulebL (a % 18446744073709551616).toNat) := by
  unfold leb_Uleb.f
  have h0 : 0 ≤ a % 18446744073709551616 := by omega
  obtain ⟨u, hu⟩ := Int.eq_ofNat_of_zero_le h0
  rw [wrap_u64, hu, uleb_l0 9 k u [] (by have : (128 : Nat) ^ (9 + 1) = 1180591620717411303424 := by decide
                                         omega) (by omega) (by simp)]
  simp
theorem sleb_l0 (d : Nat) : ∀ (k : Nat) (n : Int) (acc : List Int), -(64 * 128 ^ d : Int) ≤ n → n < 64 * 128 ^ d → d < k → acc.length + d ≤ 1000 → leb_Sleb.l0 k n acc = some (acc ++ slebL n) := by
  induction d with
  | zero =>
    intro k n acc h0 h1 hk ha
    obtain ⟨k, rfl⟩ : ∃ m, k = m + 1 := ⟨k - 1, by omega⟩
    simp only [leb_Sleb.l0]
    rw [if_neg (by simp at h0; omega), if_neg (by simp at h1; omega), if_pos (by omega), slebL_small (by simp at h0 h1; omega), b_and127]
  | succ d ih =>
    intro k n acc h0 h1 hk ha
    obtain ⟨k, rfl⟩ : ∃ m, k = m + 1 := ⟨k - 1, by omega⟩
    simp only [leb_Sleb.l0]
    by_cases h : n < -64 ∨ 63 < n
    · have hp : (128 : Int) ^ (d + 1) = 128 ^ d * 128 := Int.pow_succ _ _
      have hi := ih k (n / 128) (acc ++ [n % 128 + 128]) (by rw [hp] at h0; omega) (by rw [hp] at h1; omega) (by omega) (by simp; omega)
      simp only [List.append_assoc, List.singleton_append] at hi
      by_cases c : n < -64
      · rw [if_pos c, if_pos (show acc.length < 140737488355328 by omega), b_or128, hi, slebL_big h]
      · rw [if_neg c, if_pos (show n > 63 by omega), if_pos (show acc.length < 140737488355328 by omega), b_or128, hi, slebL_big h]
    · rw [if_neg (by omega), if_neg (by omega), if_pos (by omega), slebL_small h, b_and127]
theorem sleb_f (a : Int) (h0 : -9223372036854775808 ≤ a) (h1 : a ≤ 9223372036854775807) (k : Nat) (hk : 10 ≤ k) : leb_Sleb.f k a = some (slebL a) := by
  unfold leb_Sleb.f
  rw [sleb_l0 9 k a [] (by have : (128 : Int) ^ 9 = 9223372036854775808 := by decide
                           omega) (by have : (128 : Int) ^ 9 = 9223372036854775808 := by decide
                                      omega) (by omega) (by simp)]
  simp
end Go.Proofs.Ytfgfnflhdabmcaa.Leb
end
section
namespace Go.Proofs.Ytfgfnflhdabmcaa.G
open Go.RowKit Go.Proofs.YtfgfnflhdabmcaaW.PrintWords Go.Proofs.YtfgfnflhdabmcaaW.PrintLast Go.Proofs.YtfgfnflhdabmcaaW.PrintMore
attribute [local go_sem] max2_int min2_int max_two min_two max_three min_three max_four min_four
def cfa_put.l0 : Nat → List Int → List (List Int) → Int → Int → Option (List Int)
  | 0, _, _, _, _ => none
  | k + 1, x0, x7, x8, x9 => if x9 < x8 then (if 0 ≤ x9 then (if x9 < (x7.length : Int) then (if x0.length + (rd_L12 x7 x9).length < 140737488355328 then (cfa_put.l0 k (x0 ++ (rd_L12 x7 x9)) x7 x8 (wrap64 (x9 + 1))) else (none)) else (none)) else (none)) else (some x0)
def cfa_put.f (k : Nat) (l0 : List Int) (l1 : List (List Int)) : Option (List Int) := cfa_put.l0 k l0 l1 (l1.length : Int) 0
set_option maxHeartbeats 8000000 in
theorem cfa_put.calls (k : Nat) (P0_ : Nat → Prop) (u9000_ : Value) (l0 : List Int) (A1 : Option Addr) (c1 : Nat) (l1 : List (List Int)) (r : List Int) (w0 w : World) (hB : Below w0.heap.size w0 w) (ho0 : Kd.R (Kd.int .u8) 5 w w0.heap.size P0_ u9000_ l0) (hr1 : ∀ W_, Kept w W_ (fun k_ => P0_ k_) → Kd.C (Kd.slice 5 (Kd.int .u8)) W_ A1 l1.length l1) (hc1 : l1.length ≤ c1) (h : cfa_put.f k l0 l1 = some r) :
    Calls Try.prog 79 #[u9000_, .slice A1 l1.length c1] w fun e w' => ∃ v0_ : Value, e = .returned (v0_) ∧ Kd.R (Kd.int .u8) 5 w' w0.heap.size (fun k_ => (P0_ k_ ∨ w.heap.size ≤ k_)) v0_ r ∧ Below w0.heap.size w0 w' ∧ Kept w w' (fun k_ => P0_ k_) := by
 have HO0 := am (show Kd.R (Kd.int .u8) 5 w w0.heap.size (fun k_ => (P0_ k_ ∨ w.heap.size ≤ k_)) u9000_ l0 from Kd.R_mono ho0 (fun k_ hk => (.inl hk)))
 have HR1 := am hr1
 have HC1 := am hc1
 clear hr1 hc1
 have HK := am (Kept.refl w (fun k_ => P0_ k_))
 have HW0 := am hB.size
 have HB := am hB
 clear hB
 have H : (cfa_put.l0 k l0 l1 (l1.length : Int) 0) = some r := h
 clear h
 have H' := am H
 clear H
 go_enter Try.func79, Try.ntmps79
 go_wp2
 go_loopg [0, 9] k (fun kq v0 v9 w' => ∃ (x0_1 : List Int) (x9_1 : Int), v9 = .int .i64 x9_1 ∧ Aside0 (cfa_put.l0 kq x0_1 l1 (l1.length : Int) x9_1 = some r) ∧ Aside0 (kq ≤ k) ∧ Aside0 (Kd.R (Kd.int .u8) 5 w' w0.heap.size (fun k_ => (P0_ k_ ∨ w.heap.size ≤ k_)) v0 x0_1) ∧ Aside0 (Kept w w' (fun k_ => P0_ k_)) ∧ Aside0 (Below w0.heap.size w0 w'))
 case atStart => exact ⟨(l0), (0), (by first | rfl | (simp; done) | (simp [*]; done)), H', ⟨Nat.le_refl _⟩, ⟨by (with_reducible repeat (first | apply Kd.R_alloc | apply Kd.R_drewN | apply Kd.R_drew)); exact HO0.out⟩, ⟨by repeat (first | (with_reducible first | exact HK.out | apply Kept.alloc | apply Kept.drewN | apply Kept.drew) | exact HK.out)⟩, ⟨by exact bl_g HB.out⟩⟩
 case round =>
  clear H'
  try clear c1
  try clear p2
  obtain ⟨x0_1, x9_1, rfl, HA, HK1, HO_0, HK, HB⟩ := hrel
  cases gk with
  | zero => exact absurd HA.out (by simp [cfa_put.l0])
  | succ k1 =>
   have H := HA.out
   clear HA
   simp only [cfa_put.l0] at H
   by_cases c3 : x9_1 < (l1.length : Int)
   rotate_left
   ·
    rw [if_neg c3] at H
    have c3b0 : decide (x9_1 < (l1.length : Int)) = false := decide_eq_false c3
    clear c3
    obtain rfl := Option.some.inj H
    go_wp2
    go_ret
    exact ⟨_, rfl, by (with_reducible repeat (first | apply Kd.R_alloc | apply Kd.R_drewN | apply Kd.R_drew)); exact HO_0.out, by exact bl_g HB.out, by repeat (first | (with_reducible first | exact HK.out | apply Kept.alloc | apply Kept.drewN | apply Kept.drew) | exact HK.out)⟩
   rw [if_pos c3] at H
   have c3b0 : decide (x9_1 < (l1.length : Int)) = true := decide_eq_true c3
   clear c3
   by_cases c4 : 0 ≤ x9_1
   rotate_left
   ·
    rw [if_neg c4] at H
    exact absurd H (by simp)
   rw [if_pos c4] at H
   have c4b0 : decide (0 ≤ x9_1) = true := decide_eq_true c4
   clear c4
   by_cases c5 : x9_1 < (l1.length : Int)
   rotate_left
   ·
    rw [if_neg c5] at H
    exact absurd H (by simp)
   rw [if_pos c5] at H
   have c5b0 : decide (x9_1 < (l1.length : Int)) = true := decide_eq_true c5
   clear c5
   by_cases c6 : x0_1.length + (rd_L12 l1 x9_1).length < 140737488355328
   rotate_left
   ·
    rw [if_neg c6] at H
    exact absurd H (by simp)
   rw [if_pos c6] at H
   have LMc6 := am c6
   clear c6
   obtain ⟨y102, hy102⟩ : ∃ y_ : List Int, y_ = (x0_1 ++ (rd_L12 l1 x9_1)) := ⟨_, rfl⟩
   replace H : (cfa_put.l0 k1 y102 l1 (l1.length : Int) (wrap64 (x9_1 + 1))) = some r := by first | (rw [hy102]; with_reducible exact H) | (have H2_ := (Option.bind_some _ _).symm.trans H; rw [hy102]; with_reducible exact H2_)
   have Ny102 := am hy102
   clear hy102
   have H' := am H
   clear H
   have p101 : 0 ≤ (x9_1 : Int) := od
   have q101 : x9_1 < (l1.length : Int) := od
   obtain ⟨ad101, A101_0, c101_0, e101, hx101_0, hl101_0, hi101_0⟩ := at_L12 (Kd.C_kept_now HR1.out HK.out) x9_1 p101 q101
   cases e101
   have HR101_0 := am hi101_0
   have HC101_0 := am hl101_0
   clear hi101_0 hl101_0
   replace p101 := eq_true p101
   replace q101 := eq_true q101
   go_wp2_with (first | ((with_reducible refine gate_builtin (b := .append) (xs := #[.tmp 13, .tmp 14]) rfl ?_); at_builtin; refine Kd.R_append_rows (Kd.int .u8) (w0 := w0) w0.heap.size rfl (.tmp 13) (.tmp 14) 28 5 (.int .u8 0) 1 rfl Try.underlying28 info5 rfl (by decide) (by omega) u0 x0_1 (rd_L12 l1 x9_1) _ _ _ (fun k_ => (P0_ k_ ∨ w.heap.size ≤ k_)) (fun _ => False) rfl rfl ?aO ?aR (fun _ _ h => h) (fun _ h => h.elim) ?aF ?aB ?aS ?aL ?_; (case aR => repeat (first | exact (by repeat (first | (with_reducible exact HR101_0.out) | (with_reducible refine Kd.C_alloc ?_ _) | (with_reducible refine Kd.C_drewN ?_ _) | (with_reducible refine Kd.C_drew ?_) | exact HR101_0.out)) | (with_reducible refine Kd.C_alloc ?_ _) | (with_reducible refine Kd.C_drewN ?_ _) | (with_reducible refine Kd.C_drew ?_))); (case aB => exact (by exact bl_o HB.out)); (case aF => exact (fun k_ hk => (.inr (Nat.le_trans (by first | exact HK.out.1 | exact (show Kept w _ (fun k_ => P0_ k_) from by repeat (first | (with_reducible first | exact HK.out | apply Kept.alloc | apply Kept.drewN | apply Kept.drew) | exact HK.out)).1) hk)))); (case aO => exact (Kd.R_o HO_0.out)); (case aS => exact (below_size (by exact bl_o HB.out))); (case aL => have := LMc6.out; omega); intro v103 w7 ho hb hg hat; rw [← Ny102.out] at ho; refine mv3 (am (hb)) (am (Kept.of_grown (S := (fun k_ => P0_ k_)) hg (by repeat (first | (with_reducible first | exact HK.out | apply Kept.alloc | apply Kept.drewN | apply Kept.drew) | exact HK.out)) (fun k_ e_ => (HO_0.out.1 k_ e_)))) (am (ho)) ?_; clear HB HK HO_0; intro HB HK HO104; clear ho hb hg hat))
   go_roundg k1
   case measure => have := HK1.out; omega
   case rel => exact ⟨(y102), (wrap64 (x9_1 + 1)), (by first | rfl | (simp; done) | (simp [*]; done)), H', ⟨by have := HK1.out; omega⟩, ⟨by (with_reducible repeat (first | apply Kd.R_alloc | apply Kd.R_drewN | apply Kd.R_drew)); exact HO104.out⟩, ⟨by repeat (first | (with_reducible first | exact HK.out | apply Kept.alloc | apply Kept.drewN | apply Kept.drew) | exact HK.out)⟩, ⟨by exact bl_g HB.out⟩⟩
end Go.Proofs.Ytfgfnflhdabmcaa.G
end
section
namespace Go.Proofs.Ytfgfnflhdabmcaa.CfaB
open Go.RowKit Go.Proofs.Ytfgfnflhdabmcaa.G Go.Proofs.YtfgfnflhdabmcaaW.PrintWords Go.Proofs.YtfgfnflhdabmcaaW.PrintLast Go.Proofs.YtfgfnflhdabmcaaW.PrintMore Go.Proofs.Ytfgfnflhdabmcaa.Bit Go.Proofs.Ytfgfnflhdabmcaa.Leb Go.Proofs.Ytfgfnflhdabmcaa.Cfa
theorem uL_le (d : Nat) : ∀ u : Nat, u < 128 ^ (d + 1) → (ulebL u).length ≤ d + 1 := by
  induction d with
  | zero =>
    intro u h
    rw [ulebL_small (by simp at h; omega)]
    simp
  | succ d ih =>
    intro u h
    by_cases c : 127 < u
    · rw [ulebL_big c]
      have := ih (u / 128) (by rw [Nat.pow_succ] at h; omega)
      simp
      omega
    · rw [ulebL_small c]
      simp
theorem sL_le (d : Nat) : ∀ n : Int, -(64 * 128 ^ d : Int) ≤ n → n < 64 * 128 ^ d → (slebL n).length ≤ d + 1 := by
  induction d with
  | zero =>
    intro n h0 h1
    rw [slebL_small (by simp at h0 h1; omega)]
    simp
  | succ d ih =>
    intro n h0 h1
    by_cases c : n < -64 ∨ 63 < n
    · rw [slebL_big c]
      rw [Int.pow_succ] at h0 h1
      have := ih (n / 128) (by omega) (by omega)
      simp
      omega
    · rw [slebL_small c]
      simp
def U (a : Int) : List Int := ulebL (a % 18446744073709551616).toNat
theorem U_le (a : Int) : (U a).length ≤ 10 := uL_le 9 _ (by
  have : (128 : Nat) ^ (9 + 1) = 1180591620717411303424 := by decide
  omega)
theorem S_le {a : Int} (h0 : -9223372036854775808 ≤ a) (h1 : a ≤ 9223372036854775807) : (slebL a).length ≤ 10 := sL_le 9 a (by
  have : (128 : Int) ^ 9 = 9223372036854775808 := by decide
  omega) (by
  have : (128 : Int) ^ 9 = 9223372036854775808 := by decide
  omega)
theorem U_f (a : Int) (k : Nat) (hk : 10 ≤ k) : leb_Uleb.f k a = some (U a) := uleb_f a k hk
def advB (n : Int) : List Int := if n < 64 then [(64 + n) % 256] else if n < 256 then [2, n % 256] else if n < 65536 then [3, n % 256, (n / 256) % 256] else [4, n % 256, (n / 256) % 256, (n / 65536) % 256, (n / 16777216) % 256]
def opB (k r n : Int) : List Int :=
  if k = 1 then advB n
  else if k = 2 then [12] ++ U r ++ U n
  else if k = 4 then [13] ++ U r
  else if k = 3 then [14] ++ U n
  else if k = 5 then (if n ≤ 0 then [(128 + r) % 256] ++ U (-(n / 8)) else [17] ++ U r ++ slebL (-(n / 8)))
  else if k = 6 then [(192 + r) % 256]
  else if k = 7 then [7] ++ U r
  else if k = 8 then [8] ++ U r
  else if k = 9 then [10]
  else if k = 10 then [11]
  else [0]
theorem may5 {r n : Int} (h : mayF 5 r n = true) : ∃ m : Int, n = 8 * m ∧ 0 ≤ r ∧ r ≤ 16 ∧ -268435456 ≤ m ∧ m ≤ 268435455 := by
  have h' : (decide (n.tmod 8 = 0) && (decide (0 ≤ r) && (decide (r ≤ 16) && (decide (-2147483648 ≤ n) && decide (n ≤ 2147483640))))) = true := h
  simp only [Bool.and_eq_true, decide_eq_true_eq] at h'
  obtain ⟨h0, h1, h2, h3, h4⟩ := h'
  obtain ⟨m, rfl⟩ := Int.dvd_of_tmod_eq_zero h0
  exact ⟨m, rfl, h1, h2, by omega, by omega⟩
theorem may1 {r n : Int} (h : mayF 1 r n = true) : 0 ≤ n ∧ n ≤ 2147483647 := by
  have h' : (decide (r = 0) && (decide (0 ≤ n) && decide (n ≤ 2147483647))) = true := h
  simp only [Bool.and_eq_true, decide_eq_true_eq] at h'
  exact h'.2
theorem may6 {r n : Int} (h : mayF 6 r n = true) : 0 ≤ r ∧ r ≤ 16 := by
  have h' : (decide (n = 0) && (decide (0 ≤ r) && decide (r ≤ 16))) = true := h
  simp only [Bool.and_eq_true, decide_eq_true_eq] at h'
  exact h'.2
theorem advB_le (n : Int) : (advB n).length ≤ 30 := by
  unfold advB
  by_cases d1 : n < 64
  · rw [if_pos d1]; simp
  · rw [if_neg d1]
    by_cases d2 : n < 256
    · rw [if_pos d2]; simp
    · rw [if_neg d2]
      by_cases d3 : n < 65536
      · rw [if_pos d3]; simp
      · rw [if_neg d3]; simp
theorem opB_le {k r n : Int} (h : mayF k r n = true) : (opB k r n).length ≤ 30 := by
  have hr := U_le r
  have hn := U_le n
  unfold opB
  by_cases c1 : k = 1
  · rw [if_pos c1]; exact advB_le n
  rw [if_neg c1]
  by_cases c2 : k = 2
  · rw [if_pos c2]; simp; omega
  rw [if_neg c2]
  by_cases c4 : k = 4
  · rw [if_pos c4]; simp; omega
  rw [if_neg c4]
  by_cases c3 : k = 3
  · rw [if_pos c3]; simp; omega
  rw [if_neg c3]
  by_cases c5 : k = 5
  · rw [if_pos c5]
    subst c5
    obtain ⟨m, rfl, h1, h2, h3, h4⟩ := may5 h
    have e : 8 * m / 8 = m := Int.mul_ediv_cancel_left m (by decide)
    rw [e]
    have hm := U_le (-m)
    have hs := S_le (a := -m) (by omega) (by omega)
    by_cases d : 8 * m ≤ 0
    · rw [if_pos d]; simp; omega
    · rw [if_neg d]; simp; omega
  rw [if_neg c5]
  by_cases c6 : k = 6
  · rw [if_pos c6]; simp
  rw [if_neg c6]
  by_cases c7 : k = 7
  · rw [if_pos c7]; simp; omega
  rw [if_neg c7]
  by_cases c8 : k = 8
  · rw [if_pos c8]; simp; omega
  rw [if_neg c8]
  by_cases c9 : k = 9
  · rw [if_pos c9]; simp
  rw [if_neg c9]
  by_cases c10 : k = 10
  · rw [if_pos c10]; simp
  rw [if_neg c10]
  simp
theorem put1 (k : Nat) (hk : 2 ≤ k) (a x : List Int) (ha : a.length ≤ 1000) (hx : x.length ≤ 1000) : cfa_put.f k a [x] = some (a ++ x) := by
  obtain ⟨k, rfl⟩ : ∃ m, k = m + 1 + 1 := ⟨k - 2, by omega⟩
  show cfa_put.l0 (k + 1 + 1) a [x] 1 0 = _
  have e0 : rd_L12 [x] 0 = x := rfl
  rw [cfa_put.l0, if_pos (by omega), if_pos (by omega), if_pos (by simp), e0, if_pos (by omega), show wrap64 (0 + 1) = 1 from by unfold wrap64; omega, cfa_put.l0, if_neg (by omega)]
theorem put2 (k : Nat) (hk : 3 ≤ k) (a x y : List Int) (ha : a.length ≤ 1000) (hx : x.length ≤ 1000) (hy : y.length ≤ 1000) : cfa_put.f k a [x, y] = some (a ++ x ++ y) := by
  obtain ⟨k, rfl⟩ : ∃ m, k = m + 1 + 1 + 1 := ⟨k - 3, by omega⟩
  show cfa_put.l0 (k + 1 + 1 + 1) a [x, y] 2 0 = _
  have e0 : rd_L12 [x, y] 0 = x := rfl
  have e1 : rd_L12 [x, y] 1 = y := rfl
  rw [cfa_put.l0, if_pos (by omega), if_pos (by omega), if_pos (by simp), e0, if_pos (by omega), show wrap64 (0 + 1) = 1 from by unfold wrap64; omega, cfa_put.l0, if_pos (by omega), if_pos (by omega), if_pos (by simp), e1, if_pos (by rw [List.length_append]; omega), show wrap64 (1 + 1) = 2 from by unfold wrap64; omega, cfa_put.l0, if_neg (by omega)]
theorem C_blk {α : Type} (d : Kd α) {w : World} {g e : Nat} {cs : Array Value} {xs : List α} (h : w.heap[g]? = some (.cells cs e (0, 0))) (hr : Reps (d.K w) d.sz xs cs.toList) (hm : xs.length ≤ 9223372036854775807) : d.C w (some ⟨g, 0, none⟩) xs.length xs := by
  refine ⟨rfl, hm, fun _ => ⟨_, rfl, fun j p hj => ⟨_, ?_, hr.2 j p hj, fun i u hu => ?_⟩⟩⟩
  · exact d.K_len (hr.2 j p hj)
  · have hc := blk_cell h (j * d.sz + i)
    have hl := d.K_len (hr.2 j p hj)
    have hi : i < d.sz := by rw [← hl]; exact (List.getElem?_eq_some_iff.1 hu).1
    have e1 : (⟨g, 0, none⟩ : Addr).add (j * d.sz + i) = ⟨g, j * d.sz + i, none⟩ := by
      unfold Addr.add
      split
      · rename_i h0; rw [h0]
      · simp only [Nat.zero_add]
    rw [e1, hc, ← hu]
    rw [List.getElem?_take_of_lt hi, List.getElem?_drop, Array.getElem?_toList]
abbrev Own (w : World) (b : Nat) (v : Value) (l : List Int) : Prop := Kd.R (Kd.int .u8) 5 w b (fun _ => True) v l
theorem own_kept {w W : World} {b : Nat} {v x : Value} {l : List Int} (hx : Own w b x l) (hK : Kept w W (fun k => some k = v.ownBlock)) (hne : x.ownBlock = none ∨ x.ownBlock ≠ v.ownBlock) :
    ∃ A c, x = .slice A l.length c ∧ l.length ≤ c ∧ Kd.C (Kd.int .u8) W A l.length l := by
  have h1 := Kd.R_kept (Kd.R_tight rfl hx) hK (fun k hk hs => by
    rcases hne with h | h
    · rw [h] at hk
      cases hk
    · exact h (hk.symm.trans hs))
  obtain ⟨A, c, rfl⟩ := Kd.R_slice hx
  have h2 := Kd.R_reads' h1
  exact ⟨A, c, rfl, h2.2.1, h2.2.2⟩
theorem put1_calls {w wb : World} {g : Nat} {v x : Value} {a l : List Int} (hv : Own w wb.heap.size v a) (hx : Own w wb.heap.size x l) (hne : x.ownBlock = none ∨ x.ownBlock ≠ v.ownBlock) (hg : w.heap[g]? = some (.cells #[x] 28 (0, 0))) (ha : a.length ≤ 1000) (hl : l.length ≤ 1000) (hB : Below wb.heap.size wb w) :
    Calls Try.prog 79 #[v, .slice (some ⟨g, 0, none⟩) 1 1] w fun e w' => ∃ u, e = .returned u ∧ Own w' wb.heap.size u (a ++ l) ∧ Below wb.heap.size wb w' := by
  refine (cfa_put.calls 2 (fun k => some k = v.ownBlock) v a (some ⟨g, 0, none⟩) 1 [l] (a ++ l) wb w hB (Kd.R_tight rfl hv) ?_ (by simp) (put1 2 (by omega) a l ha hl)).mono ?_
  · intro W hK
    have hg' : W.heap[g]? = some (.cells #[x] 28 (0, 0)) := (hK.2 g (blk_lt hg) (fun hs => Kd.R_ne hv hg (by decide) hs)).trans hg
    obtain ⟨A, c, rfl, hle, hC⟩ := own_kept hx hK hne
    exact C_blk (Kd.slice 5 (Kd.int .u8)) (xs := [l]) hg' ((Reps.none _ _).snoc ⟨A, c, rfl, hle, hC⟩ rfl) (by simp)
  · rintro e w' ⟨u, rfl, hR, hB', _⟩
    exact ⟨u, rfl, Kd.R_mono hR (fun _ _ => trivial), hB'⟩
theorem put2_calls {w wb : World} {g : Nat} {v x y : Value} {a l m : List Int} (hv : Own w wb.heap.size v a) (hx : Own w wb.heap.size x l) (hy : Own w wb.heap.size y m) (hne : x.ownBlock = none ∨ x.ownBlock ≠ v.ownBlock) (hne2 : y.ownBlock = none ∨ y.ownBlock ≠ v.ownBlock) (hg : w.heap[g]? = some (.cells #[x, y] 28 (0, 0))) (ha : a.length ≤ 1000) (hl : l.length ≤ 1000) (hm : m.length ≤ 1000) (hB : Below wb.heap.size wb w) :
    Calls Try.prog 79 #[v, .slice (some ⟨g, 0, none⟩) 2 2] w fun e w' => ∃ u, e = .returned u ∧ Own w' wb.heap.size u (a ++ l ++ m) ∧ Below wb.heap.size wb w' := by
  refine (cfa_put.calls 3 (fun k => some k = v.ownBlock) v a (some ⟨g, 0, none⟩) 2 [l, m] (a ++ l ++ m) wb w hB (Kd.R_tight rfl hv) ?_ (by simp) (put2 3 (by omega) a l m ha hl hm)).mono ?_
  · intro W hK
    have hg' : W.heap[g]? = some (.cells #[x, y] 28 (0, 0)) := (hK.2 g (blk_lt hg) (fun hs => Kd.R_ne hv hg (by decide) hs)).trans hg
    obtain ⟨A, c, rfl, hle, hC⟩ := own_kept hx hK hne
    obtain ⟨A', c', rfl, hle', hC'⟩ := own_kept hy hK hne2
    exact C_blk (Kd.slice 5 (Kd.int .u8)) (xs := [l, m]) hg' (((Reps.none _ _).snoc (show (Kd.slice 5 (Kd.int .u8)).K W l [.slice A l.length c] from ⟨A, c, rfl, hle, hC⟩) rfl).snoc (show (Kd.slice 5 (Kd.int .u8)).K W m [.slice A' m.length c'] from ⟨A', c', rfl, hle', hC'⟩) rfl) (by simp)
  · rintro e w' ⟨u, rfl, hR, hB', _⟩
    exact ⟨u, rfl, Kd.R_mono hR (fun _ _ => trivial), hB'⟩
def StopB (p : Prop) : Prop := p
theorem stopB {p : Prop} (h : StopB p) : p := h
theorem Own.below {w w' : World} {b : Nat} {v : Value} {l : List Int} (h : Own w b v l) (hb : Below w.heap.size w w') : Own w' b v l := Kd.R_below h hb
theorem own_ne {w w' : World} {b : Nat} {v u : Value} {a l : List Int} (h : Own w b v a) (hu : Own w' w.heap.size u l) : (v.ownBlock = none ∨ v.ownBlock ≠ u.ownBlock) ∧ (u.ownBlock = none ∨ u.ownBlock ≠ v.ownBlock) := by
 have key : ∀ k, v.ownBlock = some k → u.ownBlock = some k → False := fun k h1 h2 => by
   have := Kd.R_lt h k h1
   have := Kd.R_base hu k h2
   omega
 cases hv : v.ownBlock with
 | none => exact ⟨.inl rfl, by cases hu2 : u.ownBlock with | none => exact .inl rfl | some k => exact .inr (by simp)⟩
 | some k =>
  refine ⟨.inr fun e => key k hv e.symm, ?_⟩
  cases hu2 : u.ownBlock with
  | none => exact .inl rfl
  | some j => exact .inr fun e => key k hv (hu2.trans e)
theorem mayB_k {k r n : Int} (h : mayF k r n = true) : k = 0 ∨ k = 1 ∨ k = 2 ∨ k = 3 ∨ k = 4 ∨ k = 5 ∨ k = 6 ∨ k = 7 ∨ k = 8 ∨ k = 9 ∨ k = 10 := by
 unfold mayF at h
 split at h
 ·
  omega
 split at h
 ·
  omega
 split at h
 ·
  omega
 split at h
 ·
  omega
 split at h
 ·
  omega
 cases h
set_option maxHeartbeats 4000000 in
theorem bytes_calls (k r n : Int) (hm : mayF k r n = true) (w : World) : Calls Try.prog 59 #[.agg #[.int .i64 k, .int .i64 r, .int .i64 n]] w fun e w' => ∃ v, e = .returned v ∧ Own w' w.heap.size v (opB k r n) ∧ Below w.heap.size w w' := by
 have hur := U_le r
 have hun := U_le n
 go_enter Try.func59, Try.ntmps59
 go_upto_region 1 with fail
 have hb0 := blk_new w (.cells #[.int .i64 k, .int .i64 r, .int .i64 n] 105)
 have hB0 := below_alloc (Below.refl w.heap.size w) (.cells #[.int .i64 k, .int .i64 r, .int .i64 n] 105)
 obtain ⟨w0, hw0⟩ : ∃ w0, w0 = w.alloc (.cells #[.int .i64 k, .int .i64 r, .int .i64 n] 105) := ⟨_, rfl⟩
 rw [← hw0] at hb0 hB0 ⊢
 clear hw0
 have HB0 := am hB0
 have HG := am hb0
 have HM := am hm
 have hk := mayB_k hm
 have y0 : w0.cell? ⟨w.heap.size, 0, none⟩ = some (.int .i64 k) := (blk_cell hb0 0).trans rfl
 have y1 : w0.cell? ⟨w.heap.size, 1, none⟩ = some (.int .i64 r) := (blk_cell hb0 1).trans rfl
 have y2 : w0.cell? ⟨w.heap.size, 2, none⟩ = some (.int .i64 n) := (blk_cell hb0 2).trans rfl
 clear hb0 hB0 hm
 rcases hk with rfl | rfl | rfl | rfl | rfl | rfl | rfl | rfl | rfl | rfl | rfl
 ·
  skip
  go_wp2_with ((with_reducible refine gate_dst (N := 136) rfl ?_); refine stopB ?stop)
  case stop =>
   unfold StopB
   refine Kd.R_lit (Kd.int .u8) _ 5 ?hg (N := 136) ?hd (xs := ([0] : List Int)) (inner := [.int .u8 (0)]) (ok := fun _ => True) (okp := fun _ => True) ?hr (Reps.one (show Kd.M (Kd.int .u8) _ _ _ (0) [.int .u8 (0)] from rfl) (Reps.none _ _)) (fun _ hk => hk) trivial (Below.refl _ _) (Nat.le_refl _) (by simp) ?_
   case hd => rfl
   case hg => rfl
   case hr => first | (go_simp; done) | (go_simp; rfl)
   intro v3 w3 hR3 hB3 _ _
   go_wp2
   go_ret
   exact ⟨_, rfl, Kd.R_lower (by rw [show opB 0 r n = [0] from rfl]; exact hR3) HB0.out.size, below_then HB0.out HB0.out.size hB3⟩
 ·
  obtain ⟨h0, h1⟩ := may1 HM.out
  by_cases e0 : n < 64
  ·
   have d0 : decide (n < 64) = true := decide_eq_true e0
   go_wp2_with ((with_reducible refine gate_dst (N := 15) rfl ?_); refine stopB ?stop)
   case stop =>
    unfold StopB
    refine Kd.R_lit (Kd.int .u8) _ 5 ?hg (N := 15) ?hd (xs := ([64 + n] : List Int)) (inner := [.int .u8 (64 + n)]) (ok := fun _ => True) (okp := fun _ => True) ?hr (Reps.one (show Kd.M (Kd.int .u8) _ _ _ (64 + n) [.int .u8 (64 + n)] from rfl) (Reps.none _ _)) (fun _ hk => hk) trivial (Below.refl _ _) (Nat.le_refl _) (by simp) ?_
    case hd => rfl
    case hg => rfl
    case hr => first | (go_simp; done) | (go_simp; rfl)
    intro v3 w3 hR3 hB3 _ _
    go_wp2
    go_ret
    exact ⟨_, rfl, Kd.R_lower (by rw [show opB 1 r n = [(64 + n) % 256] from if_pos (show n < 64 by omega), show (64 + n) % 256 = 64 + n by omega]; exact hR3) HB0.out.size, below_then HB0.out HB0.out.size hB3⟩
  have d0 : decide (n < 64) = false := decide_eq_false e0
  by_cases e1 : n < 256
  ·
   have d1 : decide (n < 256) = true := decide_eq_true e1
   go_wp2_with ((with_reducible refine gate_dst (N := 23) rfl ?_); refine stopB ?stop)
   case stop =>
    unfold StopB
    refine Kd.R_lit (Kd.int .u8) _ 5 ?hg (N := 23) ?hd (xs := ([2, n] : List Int)) (inner := [.int .u8 (2), .int .u8 (n)]) (ok := fun _ => True) (okp := fun _ => True) ?hr (Reps.one (show Kd.M (Kd.int .u8) _ _ _ (2) [.int .u8 (2)] from rfl) (Reps.one (show Kd.M (Kd.int .u8) _ _ _ (n) [.int .u8 (n)] from rfl) (Reps.none _ _))) (fun _ hk => hk) trivial (Below.refl _ _) (Nat.le_refl _) (by simp) ?_
    case hd => rfl
    case hg => rfl
    case hr => first | (go_simp; done) | (go_simp; rfl)
    intro v3 w3 hR3 hB3 _ _
    go_wp2
    go_ret
    exact ⟨_, rfl, Kd.R_lower (by rw [show opB 1 r n = [2, n % 256] from (if_neg (show ¬ n < 64 by omega)).trans (if_pos (show n < 256 by omega)), show n % 256 = n by omega]; exact hR3) HB0.out.size, below_then HB0.out HB0.out.size hB3⟩
  have d1 : decide (n < 256) = false := decide_eq_false e1
  by_cases e2 : n < 65536
  ·
   have d2 : decide (n < 65536) = true := decide_eq_true e2
   go_wp2_with ((with_reducible refine gate_dst (N := 35) rfl ?_); refine stopB ?stop)
   case stop =>
    unfold StopB
    refine Kd.R_lit (Kd.int .u8) _ 5 ?hg (N := 35) ?hd (xs := ([3, n % 256, n / 256] : List Int)) (inner := [.int .u8 (3), .int .u8 (n % 256), .int .u8 (n / 256)]) (ok := fun _ => True) (okp := fun _ => True) ?hr (Reps.one (show Kd.M (Kd.int .u8) _ _ _ (3) [.int .u8 (3)] from rfl) (Reps.one (show Kd.M (Kd.int .u8) _ _ _ (n % 256) [.int .u8 (n % 256)] from rfl) (Reps.one (show Kd.M (Kd.int .u8) _ _ _ (n / 256) [.int .u8 (n / 256)] from rfl) (Reps.none _ _)))) (fun _ hk => hk) trivial (Below.refl _ _) (Nat.le_refl _) (by simp) ?_
    case hd => rfl
    case hg => rfl
    case hr => first | (go_simp; done) | (go_simp; rfl)
    intro v3 w3 hR3 hB3 _ _
    go_wp2
    go_ret
    exact ⟨_, rfl, Kd.R_lower (by rw [show opB 1 r n = [3, n % 256, n / 256 % 256] from (if_neg (show ¬ n < 64 by omega)).trans ((if_neg (show ¬ n < 256 by omega)).trans (if_pos (show n < 65536 by omega))), show n / 256 % 256 = n / 256 by omega]; exact hR3) HB0.out.size, below_then HB0.out HB0.out.size hB3⟩
  have d2 : decide (n < 65536) = false := decide_eq_false e2
  go_wp2_with ((with_reducible refine gate_dst (N := 51) rfl ?_); refine stopB ?stop)
  case stop =>
   unfold StopB
   refine Kd.R_lit (Kd.int .u8) _ 5 ?hg (N := 51) ?hd (xs := ([4, n % 256, n / 256 % 256, n / 65536 % 256, n / 16777216] : List Int)) (inner := [.int .u8 (4), .int .u8 (n % 256), .int .u8 (n / 256 % 256), .int .u8 (n / 65536 % 256), .int .u8 (n / 16777216)]) (ok := fun _ => True) (okp := fun _ => True) ?hr (Reps.one (show Kd.M (Kd.int .u8) _ _ _ (4) [.int .u8 (4)] from rfl) (Reps.one (show Kd.M (Kd.int .u8) _ _ _ (n % 256) [.int .u8 (n % 256)] from rfl) (Reps.one (show Kd.M (Kd.int .u8) _ _ _ (n / 256 % 256) [.int .u8 (n / 256 % 256)] from rfl) (Reps.one (show Kd.M (Kd.int .u8) _ _ _ (n / 65536 % 256) [.int .u8 (n / 65536 % 256)] from rfl) (Reps.one (show Kd.M (Kd.int .u8) _ _ _ (n / 16777216) [.int .u8 (n / 16777216)] from rfl) (Reps.none _ _)))))) (fun _ hk => hk) trivial (Below.refl _ _) (Nat.le_refl _) (by simp) ?_
   case hd => rfl
   case hg => rfl
   case hr => first | (go_simp; done) | (go_simp; rfl)
   intro v3 w3 hR3 hB3 _ _
   go_wp2
   go_ret
   exact ⟨_, rfl, Kd.R_lower (by rw [show opB 1 r n = [4, n % 256, n / 256 % 256, n / 65536 % 256, n / 16777216 % 256] from (if_neg (show ¬ n < 64 by omega)).trans ((if_neg (show ¬ n < 256 by omega)).trans (if_neg (show ¬ n < 65536 by omega))), show n / 16777216 % 256 = n / 16777216 by omega]; exact hR3) HB0.out.size, below_then HB0.out HB0.out.size hB3⟩
 ·
  skip
  have HSS : Aside0 (∀ u, Below w0.heap.size w0 u → u.cell? ⟨w.heap.size, 1, none⟩ = some (.int .i64 r) ∧ u.cell? ⟨w.heap.size, 2, none⟩ = some (.int .i64 n)) := ⟨fun u hu => ⟨(blk_cell (blk_below HG.out hu) 1).trans rfl, (blk_cell (blk_below HG.out hu) 2).trans rfl⟩⟩
  have HBp : Aside0 (Below w0.heap.size w0 w0.drew) := ⟨below_drew (Below.refl _ _)⟩
  go_upto_region 11 with fail
  clear y0
  refine start_ (n := 10) (S := fun u => u.cell? ⟨w.heap.size, 1, none⟩ = some (.int .i64 r) ∧ u.cell? ⟨w.heap.size, 2, none⟩ = some (.int .i64 n)) (ds := []) (bm 10 0) (by kernel_rfl) rfl rfl ?_ (fun hHeld => ?_)
  case refine_1 => exact HSS.out _ HBp.out
  refine pure_ (i := 1) (N := some 55) (v := ?_) (a' := ?_) (bm 10 2) rfl rfl (by kernel_rfl) (fun _ _ _ h => h) (Or.inl ⟨by rfl, ?_⟩) ?_ ?_
  rotate_left
  ·
   intro u
   go_simp
   with_reducible rfl
  rotate_left
  ·
   simp only [pz]
   rfl
  refine take_ (i := 2) (N := some 56) (v := ?_) (a' := ?_) (bm 10 6) rfl rfl (by kernel_rfl) (fun _ _ _ h => h) (Or.inl ⟨by rfl, ?_⟩) hHeld ?_ ?_
  rotate_left
  ·
   rintro u ⟨s1, s2⟩
   go_simp
   with_reducible rfl
  rotate_left
  ·
   simp only [pz]
   rfl
  refine pure_ (i := 4) (N := some 58) (v := ?_) (a' := ?_) (bm 10 22) rfl rfl (by kernel_rfl) (fun _ _ _ h => h) (Or.inl ⟨by rfl, ?_⟩) ?_ ?_
  rotate_left
  ·
   intro u
   go_simp
   with_reducible rfl
  rotate_left
  ·
   simp only [pz]
   rfl
  refine take_ (i := 5) (N := some 59) (v := ?_) (a' := ?_) (bm 10 54) rfl rfl (by kernel_rfl) (fun _ _ _ h => h) (Or.inl ⟨by rfl, ?_⟩) hHeld ?_ ?_
  rotate_left
  ·
   rintro u ⟨s1, s2⟩
   go_simp
   with_reducible rfl
  rotate_left
  ·
   simp only [pz]
   rfl
  clear hHeld y1 y2
  refine join_ (σ := Value × (Option Addr × Nat) × (Option Addr × Nat) × Nat) 2 (bm 10 255) (fun s => [(54, s.1), (57, .slice s.2.1.1 (U r).length s.2.1.2), (60, .slice s.2.2.1.1 (U n).length s.2.2.1.2), (61, .slice (some ⟨s.2.2.2, 0, none⟩) 2 2)]) (fun s W => Below w0.heap.size w0 W ∧ Own W w0.heap.size s.1 [12] ∧ (Own W w0.heap.size (.slice s.2.1.1 (U r).length s.2.1.2) (U r) ∧ ((.slice s.2.1.1 (U r).length s.2.1.2 : Value).ownBlock = none ∨ (.slice s.2.1.1 (U r).length s.2.1.2 : Value).ownBlock ≠ s.1.ownBlock)) ∧ (Own W w0.heap.size (.slice s.2.2.1.1 (U n).length s.2.2.1.2) (U n) ∧ ((.slice s.2.2.1.1 (U n).length s.2.2.1.2 : Value).ownBlock = none ∨ (.slice s.2.2.1.1 (U n).length s.2.2.1.2 : Value).ownBlock ≠ s.1.ownBlock)) ∧ W.heap[s.2.2.2]? = some (.cells #[.slice s.2.1.1 (U r).length s.2.1.2, .slice s.2.2.1.1 (U n).length s.2.2.1.2] 28 (0, 0))) ?_ ?_
  ·
   rintro ⟨v3, ⟨A0, c0⟩, ⟨A1, c1⟩, g⟩ W ⟨f0, f1, ⟨p0, q0⟩, ⟨p1, q1⟩, fg⟩
   have F0 := am f0
   have F1 := am f1
   have FG := am fg
   have P0 := am (And.intro p0 q0)
   have P1 := am (And.intro p1 q1)
   clear f0 f1 fg p0 q0 p1 q1
   refine norm_ (a' := ?_) ?_ ?_
   rotate_left
   ·
    simp only [putAll, Act.put, List.setIfInBounds_toArray, List.set_cons_zero, List.set_cons_succ]
    rfl
   refine one_ (i := 8) (N := some 62) (bm 10 511) rfl rfl (by kernel_rfl) (by decide) (fun K hK => ?_)
   refine call_ 79 #[v3, .slice (some ⟨g, 0, none⟩) 2 2] (by rfl) rfl (by go_simp) ?_
   refine (put2_calls (wb := w0) F1.out P0.out.1 P1.out.1 P0.out.2 P1.out.2 FG.out (by simp) (by omega) (by omega) F0.out).mono ?_
   rintro e w6 ⟨v6, rfl, hR6, hB6⟩
   refine ⟨_, rfl, ?_⟩
   have HB6 := am hB6
   refine hK.out _ _ (HSS.out _ hB6) (fun _ => ?_)
   clear hK K hB6
   refine norm_ (a' := ?_) ?_ ?_
   rotate_left
   ·
    show Act.put _ (some 62) _ = _
    simp only [pz]
    rfl
   refine pure_ (i := 9) (N := some 2) (v := ?_) (a' := ?_) (bm 10 1023) rfl rfl (by kernel_rfl) (fun _ _ _ h => h) (Or.inl ⟨by rfl, ?_⟩) ?_ ?_
   rotate_left
   ·
    intro u
    go_simp
    with_reducible rfl
   rotate_left
   ·
    simp only [pz]
    rfl
   refine done_ (by kernel_rfl) ?_
   go_wp2
   go_ret
   refine ⟨_, rfl, Kd.R_lower (show Own _ _ _ (opB 2 r n) from ?_) HB0.out.size, below_then HB0.out HB0.out.size HB6.out⟩
   exact hR6
  intro hJ
  refine two_ (i := 0) (j := 3) (Ni := some 54) (Nj := some 57) (bm 10 55) (bm 10 62) rfl rfl rfl rfl (by kernel_rfl) (by decide) (by decide) (fun K hK => ?_) (fun K hK => ?_)
  ·
   skip
   refine Kd.R_lit_step (Kd.int .u8) _ 5 ?hg (N := 54) ?hd (xs := ([12] : List Int)) (inner := [.int .u8 (12)]) (ok := fun _ => True) (okp := fun _ => True) ?hr (Reps.one (show Kd.M (Kd.int .u8) _ _ _ (12) [.int .u8 (12)] from rfl) (Reps.none _ _)) (fun _ hk => hk) trivial (Below.refl _ _) (Nat.le_refl _) (by simp) ?_; (case hd => rfl); (case hg => rfl); (case hr => first | (go_simp; done) | (go_simp; rfl))
   intro vL1 wL1 hR hB _ _
   have HB_1 := am (below_then HBp.out HBp.out.size hB)
   have HL_1 := am (Kd.R_lower hR HBp.out.size)
   clear hB hR
   refine hK.out _ _ (HSS.out _ HB_1.out) (fun _ => ?_)
   clear hK K
   refine norm_ (a' := ?_) ?_ ?_
   rotate_left
   ·
    show Act.put _ (some 54) _ = _
    simp only [pz]
    rfl
   refine one_ (i := 3) (N := some 57) (bm 10 63) rfl rfl (by kernel_rfl) (by decide) (fun K hK => ?_)
   refine call_ 38 #[.int .i64 r] (by rfl) rfl (by go_simp) ?_
   refine (leb_Uleb.calls 10 (r) (U (r)) _ (U_f (r) 10 (by omega))).mono ?_
   rintro e wC2 ⟨xC2, rfl, hR, hB⟩
   refine ⟨_, rfl, ?_⟩
   obtain ⟨AC2, cC2, rfl⟩ := Kd.R_slice hR
   have HB_2 := am (below_then HB_1.out HB_1.out.size hB)
   have HX_2 := am (Kd.R_lower hR HB_1.out.size)
   have N_2_0 := am (own_ne HL_1.out hR).2
   have HL_2 := am (Own.below HL_1.out hB)
   clear hB hR
   refine hK.out _ _ (HSS.out _ HB_2.out) (fun _ => ?_)
   clear hK K
   refine norm_ (a' := ?_) ?_ ?_
   rotate_left
   ·
    show Act.put _ (some 57) _ = _
    simp only [pz]
    rfl
   refine one_ (i := 6) (N := some 60) (bm 10 127) rfl rfl (by kernel_rfl) (by decide) (fun K hK => ?_)
   refine call_ 38 #[.int .i64 n] (by rfl) rfl (by go_simp) ?_
   refine (leb_Uleb.calls 10 (n) (U (n)) _ (U_f (n) 10 (by omega))).mono ?_
   rintro e wC3 ⟨xC3, rfl, hR, hB⟩
   refine ⟨_, rfl, ?_⟩
   obtain ⟨AC3, cC3, rfl⟩ := Kd.R_slice hR
   have HB_3 := am (below_then HB_2.out HB_2.out.size hB)
   have HX_3 := am (Kd.R_lower hR HB_2.out.size)
   have N_3_1 := am (own_ne HL_2.out hR).2
   have HL_3 := am (Own.below HL_2.out hB)
   have HX_3_0 := am (Own.below HX_2.out hB)
   clear hB hR
   refine hK.out _ _ (HSS.out _ HB_3.out) (fun _ => ?_)
   clear hK K
   refine norm_ (a' := ?_) ?_ ?_
   rotate_left
   ·
    show Act.put _ (some 60) _ = _
    simp only [pz]
    rfl
   refine one_ (i := 7) (N := some 61) (bm 10 255) rfl rfl (by kernel_rfl) (by decide) (fun K hK => ?_)
   refine event_step (v := .slice (some ⟨wC3.heap.size, 0, none⟩) 2 2) (w1 := (wC3.alloc (.cells #[.slice AC2 (U r).length cC2, .slice AC3 (U n).length cC3] 28))) rfl (by first | (go_simp; done) | (go_simp; rfl)) ?_
   have hB := below_alloc (Below.refl wC3.heap.size wC3) (.cells #[.slice AC2 (U r).length cC2, .slice AC3 (U n).length cC3] 28)
   have HB_4 := am (below_then HB_3.out HB_3.out.size hB)
   have hg_4 := blk_new wC3 (.cells #[.slice AC2 (U r).length cC2, .slice AC3 (U n).length cC3] 28)
   have HL_4 := am (Own.below HL_3.out hB)
   have HX_4_0 := am (Own.below HX_3_0.out hB)
   have HX_4_1 := am (Own.below HX_3.out hB)
   clear hB
   refine hK.out _ _ (HSS.out _ HB_4.out) (fun _ => ?_)
   clear hK K
   refine norm_ (a' := ?_) ?_ ?_
   rotate_left
   ·
    show Act.put _ (some 61) _ = _
    simp only [pz]
    rfl
   exact norm_ (by first | (simp only [putAll, Act.put, List.setIfInBounds_toArray, List.set_cons_zero, List.set_cons_succ]; done) | (simp only [putAll, Act.put, List.setIfInBounds_toArray, List.set_cons_zero, List.set_cons_succ]; rfl)) (hJ (vL1, (AC2, cC2), (AC3, cC3), wC3.heap.size) _ ⟨HB_4.out, HL_4.out, ⟨HX_4_0.out, N_2_0.out⟩, ⟨HX_4_1.out, N_3_1.out⟩, hg_4⟩)
  skip
  refine call_ 38 #[.int .i64 r] (by rfl) rfl (by go_simp) ?_
  refine (leb_Uleb.calls 10 (r) (U (r)) _ (U_f (r) 10 (by omega))).mono ?_
  rintro e wC5 ⟨xC5, rfl, hR, hB⟩
  refine ⟨_, rfl, ?_⟩
  obtain ⟨AC5, cC5, rfl⟩ := Kd.R_slice hR
  have HB_5 := am (below_then HBp.out HBp.out.size hB)
  have HX_5 := am (Kd.R_lower hR HBp.out.size)
  clear hB hR
  refine hK.out _ _ (HSS.out _ HB_5.out) (fun _ => ?_)
  clear hK K
  refine norm_ (a' := ?_) ?_ ?_
  rotate_left
  ·
   show Act.put _ (some 57) _ = _
   simp only [pz]
   rfl
  refine two_ (i := 0) (j := 6) (Ni := some 54) (Nj := some 60) (bm 10 63) (bm 10 126) rfl rfl rfl rfl (by kernel_rfl) (by decide) (by decide) (fun K hK => ?_) (fun K hK => ?_)
  ·
   skip
   refine Kd.R_lit_step (Kd.int .u8) _ 5 ?hg (N := 54) ?hd (xs := ([12] : List Int)) (inner := [.int .u8 (12)]) (ok := fun _ => True) (okp := fun _ => True) ?hr (Reps.one (show Kd.M (Kd.int .u8) _ _ _ (12) [.int .u8 (12)] from rfl) (Reps.none _ _)) (fun _ hk => hk) trivial (Below.refl _ _) (Nat.le_refl _) (by simp) ?_; (case hd => rfl); (case hg => rfl); (case hr => first | (go_simp; done) | (go_simp; rfl))
   intro vL6 wL6 hR hB _ _
   have HB_6 := am (below_then HB_5.out HB_5.out.size hB)
   have HL_6 := am (Kd.R_lower hR HB_5.out.size)
   have N_6_0 := am (own_ne HX_5.out hR).1
   have HX_6_0 := am (Own.below HX_5.out hB)
   clear hB hR
   refine hK.out _ _ (HSS.out _ HB_6.out) (fun _ => ?_)
   clear hK K
   refine norm_ (a' := ?_) ?_ ?_
   rotate_left
   ·
    show Act.put _ (some 54) _ = _
    simp only [pz]
    rfl
   refine one_ (i := 6) (N := some 60) (bm 10 127) rfl rfl (by kernel_rfl) (by decide) (fun K hK => ?_)
   refine call_ 38 #[.int .i64 n] (by rfl) rfl (by go_simp) ?_
   refine (leb_Uleb.calls 10 (n) (U (n)) _ (U_f (n) 10 (by omega))).mono ?_
   rintro e wC7 ⟨xC7, rfl, hR, hB⟩
   refine ⟨_, rfl, ?_⟩
   obtain ⟨AC7, cC7, rfl⟩ := Kd.R_slice hR
   have HB_7 := am (below_then HB_6.out HB_6.out.size hB)
   have HX_7 := am (Kd.R_lower hR HB_6.out.size)
   have N_7_1 := am (own_ne HL_6.out hR).2
   have HL_7 := am (Own.below HL_6.out hB)
   have HX_7_0 := am (Own.below HX_6_0.out hB)
   clear hB hR
   refine hK.out _ _ (HSS.out _ HB_7.out) (fun _ => ?_)
   clear hK K
   refine norm_ (a' := ?_) ?_ ?_
   rotate_left
   ·
    show Act.put _ (some 60) _ = _
    simp only [pz]
    rfl
   refine one_ (i := 7) (N := some 61) (bm 10 255) rfl rfl (by kernel_rfl) (by decide) (fun K hK => ?_)
   refine event_step (v := .slice (some ⟨wC7.heap.size, 0, none⟩) 2 2) (w1 := (wC7.alloc (.cells #[.slice AC5 (U r).length cC5, .slice AC7 (U n).length cC7] 28))) rfl (by first | (go_simp; done) | (go_simp; rfl)) ?_
   have hB := below_alloc (Below.refl wC7.heap.size wC7) (.cells #[.slice AC5 (U r).length cC5, .slice AC7 (U n).length cC7] 28)
   have HB_8 := am (below_then HB_7.out HB_7.out.size hB)
   have hg_8 := blk_new wC7 (.cells #[.slice AC5 (U r).length cC5, .slice AC7 (U n).length cC7] 28)
   have HL_8 := am (Own.below HL_7.out hB)
   have HX_8_0 := am (Own.below HX_7_0.out hB)
   have HX_8_1 := am (Own.below HX_7.out hB)
   clear hB
   refine hK.out _ _ (HSS.out _ HB_8.out) (fun _ => ?_)
   clear hK K
   refine norm_ (a' := ?_) ?_ ?_
   rotate_left
   ·
    show Act.put _ (some 61) _ = _
    simp only [pz]
    rfl
   exact norm_ (by first | (simp only [putAll, Act.put, List.setIfInBounds_toArray, List.set_cons_zero, List.set_cons_succ]; done) | (simp only [putAll, Act.put, List.setIfInBounds_toArray, List.set_cons_zero, List.set_cons_succ]; rfl)) (hJ (vL6, (AC5, cC5), (AC7, cC7), wC7.heap.size) _ ⟨HB_8.out, HL_8.out, ⟨HX_8_0.out, N_6_0.out⟩, ⟨HX_8_1.out, N_7_1.out⟩, hg_8⟩)
  skip
  refine call_ 38 #[.int .i64 n] (by rfl) rfl (by go_simp) ?_
  refine (leb_Uleb.calls 10 (n) (U (n)) _ (U_f (n) 10 (by omega))).mono ?_
  rintro e wC9 ⟨xC9, rfl, hR, hB⟩
  refine ⟨_, rfl, ?_⟩
  obtain ⟨AC9, cC9, rfl⟩ := Kd.R_slice hR
  have HB_9 := am (below_then HB_5.out HB_5.out.size hB)
  have HX_9 := am (Kd.R_lower hR HB_5.out.size)
  have HX_9_0 := am (Own.below HX_5.out hB)
  clear hB hR
  refine hK.out _ _ (HSS.out _ HB_9.out) (fun _ => ?_)
  clear hK K
  refine norm_ (a' := ?_) ?_ ?_
  rotate_left
  ·
   show Act.put _ (some 60) _ = _
   simp only [pz]
   rfl
  refine two_ (i := 0) (j := 7) (Ni := some 54) (Nj := some 61) (bm 10 127) (bm 10 254) rfl rfl rfl rfl (by kernel_rfl) (by decide) (by decide) (fun K hK => ?_) (fun K hK => ?_)
  ·
   skip
   refine Kd.R_lit_step (Kd.int .u8) _ 5 ?hg (N := 54) ?hd (xs := ([12] : List Int)) (inner := [.int .u8 (12)]) (ok := fun _ => True) (okp := fun _ => True) ?hr (Reps.one (show Kd.M (Kd.int .u8) _ _ _ (12) [.int .u8 (12)] from rfl) (Reps.none _ _)) (fun _ hk => hk) trivial (Below.refl _ _) (Nat.le_refl _) (by simp) ?_; (case hd => rfl); (case hg => rfl); (case hr => first | (go_simp; done) | (go_simp; rfl))
   intro vL10 wL10 hR hB _ _
   have HB_10 := am (below_then HB_9.out HB_9.out.size hB)
   have HL_10 := am (Kd.R_lower hR HB_9.out.size)
   have N_10_0 := am (own_ne HX_9_0.out hR).1
   have N_10_1 := am (own_ne HX_9.out hR).1
   have HX_10_0 := am (Own.below HX_9_0.out hB)
   have HX_10_1 := am (Own.below HX_9.out hB)
   clear hB hR
   refine hK.out _ _ (HSS.out _ HB_10.out) (fun _ => ?_)
   clear hK K
   refine norm_ (a' := ?_) ?_ ?_
   rotate_left
   ·
    show Act.put _ (some 54) _ = _
    simp only [pz]
    rfl
   refine one_ (i := 7) (N := some 61) (bm 10 255) rfl rfl (by kernel_rfl) (by decide) (fun K hK => ?_)
   refine event_step (v := .slice (some ⟨wL10.heap.size, 0, none⟩) 2 2) (w1 := (wL10.alloc (.cells #[.slice AC5 (U r).length cC5, .slice AC9 (U n).length cC9] 28))) rfl (by first | (go_simp; done) | (go_simp; rfl)) ?_
   have hB := below_alloc (Below.refl wL10.heap.size wL10) (.cells #[.slice AC5 (U r).length cC5, .slice AC9 (U n).length cC9] 28)
   have HB_11 := am (below_then HB_10.out HB_10.out.size hB)
   have hg_11 := blk_new wL10 (.cells #[.slice AC5 (U r).length cC5, .slice AC9 (U n).length cC9] 28)
   have HL_11 := am (Own.below HL_10.out hB)
   have HX_11_0 := am (Own.below HX_10_0.out hB)
   have HX_11_1 := am (Own.below HX_10_1.out hB)
   clear hB
   refine hK.out _ _ (HSS.out _ HB_11.out) (fun _ => ?_)
   clear hK K
   refine norm_ (a' := ?_) ?_ ?_
   rotate_left
   ·
    show Act.put _ (some 61) _ = _
    simp only [pz]
    rfl
   exact norm_ (by first | (simp only [putAll, Act.put, List.setIfInBounds_toArray, List.set_cons_zero, List.set_cons_succ]; done) | (simp only [putAll, Act.put, List.setIfInBounds_toArray, List.set_cons_zero, List.set_cons_succ]; rfl)) (hJ (vL10, (AC5, cC5), (AC9, cC9), wL10.heap.size) _ ⟨HB_11.out, HL_11.out, ⟨HX_11_0.out, N_10_0.out⟩, ⟨HX_11_1.out, N_10_1.out⟩, hg_11⟩)
  skip
  refine event_step (v := .slice (some ⟨wC9.heap.size, 0, none⟩) 2 2) (w1 := (wC9.alloc (.cells #[.slice AC5 (U r).length cC5, .slice AC9 (U n).length cC9] 28))) rfl (by first | (go_simp; done) | (go_simp; rfl)) ?_
  have hB := below_alloc (Below.refl wC9.heap.size wC9) (.cells #[.slice AC5 (U r).length cC5, .slice AC9 (U n).length cC9] 28)
  have HB_12 := am (below_then HB_9.out HB_9.out.size hB)
  have hg_12 := blk_new wC9 (.cells #[.slice AC5 (U r).length cC5, .slice AC9 (U n).length cC9] 28)
  have HX_12_0 := am (Own.below HX_9_0.out hB)
  have HX_12_1 := am (Own.below HX_9.out hB)
  clear hB
  refine hK.out _ _ (HSS.out _ HB_12.out) (fun _ => ?_)
  clear hK K
  refine norm_ (a' := ?_) ?_ ?_
  rotate_left
  ·
   show Act.put _ (some 61) _ = _
   simp only [pz]
   rfl
  refine one_ (i := 0) (N := some 54) (bm 10 255) rfl rfl (by kernel_rfl) (by decide) (fun K hK => ?_)
  refine Kd.R_lit_step (Kd.int .u8) _ 5 ?hg (N := 54) ?hd (xs := ([12] : List Int)) (inner := [.int .u8 (12)]) (ok := fun _ => True) (okp := fun _ => True) ?hr (Reps.one (show Kd.M (Kd.int .u8) _ _ _ (12) [.int .u8 (12)] from rfl) (Reps.none _ _)) (fun _ hk => hk) trivial (Below.refl _ _) (Nat.le_refl _) (by simp) ?_; (case hd => rfl); (case hg => rfl); (case hr => first | (go_simp; done) | (go_simp; rfl))
  intro vL13 wL13 hR hB _ _
  have HB_13 := am (below_then HB_12.out HB_12.out.size hB)
  have HL_13 := am (Kd.R_lower hR HB_12.out.size)
  have N_13_0 := am (own_ne HX_12_0.out hR).1
  have N_13_1 := am (own_ne HX_12_1.out hR).1
  have HX_13_0 := am (Own.below HX_12_0.out hB)
  have HX_13_1 := am (Own.below HX_12_1.out hB)
  have hg_13 := blk_below hg_12 hB
  clear hB hR
  refine hK.out _ _ (HSS.out _ HB_13.out) (fun _ => ?_)
  clear hK K
  refine norm_ (a' := ?_) ?_ ?_
  rotate_left
  ·
   show Act.put _ (some 54) _ = _
   simp only [pz]
   rfl
  exact norm_ (by first | (simp only [putAll, Act.put, List.setIfInBounds_toArray, List.set_cons_zero, List.set_cons_succ]; done) | (simp only [putAll, Act.put, List.setIfInBounds_toArray, List.set_cons_zero, List.set_cons_succ]; rfl)) (hJ (vL13, (AC5, cC5), (AC9, cC9), wC9.heap.size) _ ⟨HB_13.out, HL_13.out, ⟨HX_13_0.out, N_13_0.out⟩, ⟨HX_13_1.out, N_13_1.out⟩, hg_13⟩)
 ·
  skip
  go_wp2_with ((with_reducible refine gate_dst (N := 73) rfl ?_); refine stopB ?stop)
  case stop =>
   unfold StopB
   refine Kd.R_lit (Kd.int .u8) _ 5 ?hg (N := 73) ?hd (xs := ([14] : List Int)) (inner := [.int .u8 (14)]) (ok := fun _ => True) (okp := fun _ => True) ?hr (Reps.one (show Kd.M (Kd.int .u8) _ _ _ (14) [.int .u8 (14)] from rfl) (Reps.none _ _)) (fun _ hk => hk) trivial (Below.refl _ _) (Nat.le_refl _) (by simp) ?_
   case hd => rfl
   case hg => rfl
   case hr => first | (go_simp; done) | (go_simp; rfl)
   intro v3 w3 hR3 hB3 _ _
   have HV := am (Kd.R_lower hR3 (Nat.le_refl _))
   have z2 : w3.cell? ⟨w.heap.size, 2, none⟩ = some (.int .i64 n) := (blk_cell (blk_below HG.out hB3) 2).trans rfl
   have HB3 := am hB3
   clear hB3 y0 y1 y2 hR3
   go_wp2_with fail
   refine (leb_Uleb.calls 10 n (U n) w3 (U_f n 10 (by omega))).mono ?_
   rintro e w4 ⟨v4, rfl, hR4, hB4⟩
   have HN := am (own_ne HV.out hR4).2
   have HV4 := am (Own.below HV.out hB4)
   have HB4 := am (below_then HB3.out HB3.out.size hB4)
   have HX := am (Kd.R_lower hR4 HB3.out.size)
   obtain ⟨A4, c4, rfl⟩ := Kd.R_slice hR4
   clear hR4 hB4
   go_wp2_with fail
   have hG5 := blk_new w4 (.cells #[.slice A4 (U n).length c4] 28)
   have hB5 := below_alloc (Below.refl w4.heap.size w4) (.cells #[.slice A4 (U n).length c4] 28)
   obtain ⟨w5, hw5⟩ : ∃ w5, w5 = w4.alloc (.cells #[.slice A4 (U n).length c4] 28) := ⟨_, rfl⟩
   rw [← hw5] at hG5 hB5 ⊢
   refine (put1_calls (wb := w0) (Own.below HV4.out hB5) (Own.below HX.out hB5) HN.out hG5 (by simp) (by omega) (below_then HB4.out HB4.out.size hB5)).mono ?_
   rintro e w6 ⟨u, rfl, hR6, hB6⟩
   go_wp2
   go_ret
   exact ⟨_, rfl, Kd.R_lower (show Own _ _ _ (opB 3 r n) from hR6) HB0.out.size, below_then HB0.out HB0.out.size hB6⟩
 ·
  skip
  go_wp2_with ((with_reducible refine gate_dst (N := 65) rfl ?_); refine stopB ?stop)
  case stop =>
   unfold StopB
   refine Kd.R_lit (Kd.int .u8) _ 5 ?hg (N := 65) ?hd (xs := ([13] : List Int)) (inner := [.int .u8 (13)]) (ok := fun _ => True) (okp := fun _ => True) ?hr (Reps.one (show Kd.M (Kd.int .u8) _ _ _ (13) [.int .u8 (13)] from rfl) (Reps.none _ _)) (fun _ hk => hk) trivial (Below.refl _ _) (Nat.le_refl _) (by simp) ?_
   case hd => rfl
   case hg => rfl
   case hr => first | (go_simp; done) | (go_simp; rfl)
   intro v3 w3 hR3 hB3 _ _
   have HV := am (Kd.R_lower hR3 (Nat.le_refl _))
   have z1 : w3.cell? ⟨w.heap.size, 1, none⟩ = some (.int .i64 r) := (blk_cell (blk_below HG.out hB3) 1).trans rfl
   have HB3 := am hB3
   clear hB3 y0 y1 y2 hR3
   go_wp2_with fail
   refine (leb_Uleb.calls 10 r (U r) w3 (U_f r 10 (by omega))).mono ?_
   rintro e w4 ⟨v4, rfl, hR4, hB4⟩
   have HN := am (own_ne HV.out hR4).2
   have HV4 := am (Own.below HV.out hB4)
   have HB4 := am (below_then HB3.out HB3.out.size hB4)
   have HX := am (Kd.R_lower hR4 HB3.out.size)
   obtain ⟨A4, c4, rfl⟩ := Kd.R_slice hR4
   clear hR4 hB4
   go_wp2_with fail
   have hG5 := blk_new w4 (.cells #[.slice A4 (U r).length c4] 28)
   have hB5 := below_alloc (Below.refl w4.heap.size w4) (.cells #[.slice A4 (U r).length c4] 28)
   obtain ⟨w5, hw5⟩ : ∃ w5, w5 = w4.alloc (.cells #[.slice A4 (U r).length c4] 28) := ⟨_, rfl⟩
   rw [← hw5] at hG5 hB5 ⊢
   refine (put1_calls (wb := w0) (Own.below HV4.out hB5) (Own.below HX.out hB5) HN.out hG5 (by simp) (by omega) (below_then HB4.out HB4.out.size hB5)).mono ?_
   rintro e w6 ⟨u, rfl, hR6, hB6⟩
   go_wp2
   go_ret
   exact ⟨_, rfl, Kd.R_lower (show Own _ _ _ (opB 4 r n) from hR6) HB0.out.size, below_then HB0.out HB0.out.size hB6⟩
 ·
  obtain ⟨m, rfl, h1, h2, h3, h4⟩ := may5 HM.out
  have e : 8 * m / 8 = m := Int.mul_ediv_cancel_left m (by decide)
  have HQ := am (show wrap64 ((wrap64 (-(8 * m))).tdiv 8) = -m from by rw [wrap64_id (n := -(8 * m)) (by omega) (by omega), show -(8 * m) = 8 * (-m) from by omega, Int.mul_tdiv_cancel_left (-m) (show (8 : Int) ≠ 0 by decide), wrap64_id (by omega) (by omega)])
  have HWR := am (show IntKind.u8.wrap (128 + IntKind.u8.wrap r) = (128 + r) % 256 from by show (128 + r % 256) % 256 = (128 + r) % 256; omega)
  have HE := am e
  have hum := U_le (-m)
  have hsm := S_le (a := -m) (by omega) (by omega)
  clear e
  by_cases hd : 8 * m ≤ 0
  ·
   have hdd : decide (8 * m ≤ 0) = true := decide_eq_true hd
   have HSS : Aside0 (∀ u, Below w0.heap.size w0 u → u.cell? ⟨w.heap.size, 1, none⟩ = some (.int .i64 r) ∧ u.cell? ⟨w.heap.size, 2, none⟩ = some (.int .i64 (8 * m))) := ⟨fun u hu => ⟨(blk_cell (blk_below HG.out hu) 1).trans rfl, (blk_cell (blk_below HG.out hu) 2).trans rfl⟩⟩
   have HBp : Aside0 (Below w0.heap.size w0 w0.drew) := ⟨below_drew (Below.refl _ _)⟩
   go_upto_region 18 with fail
   clear y0
   refine start_ (n := 13) (S := fun u => u.cell? ⟨w.heap.size, 1, none⟩ = some (.int .i64 r) ∧ u.cell? ⟨w.heap.size, 2, none⟩ = some (.int .i64 (8 * m))) (ds := []) (bm 13 0) (by kernel_rfl) rfl rfl ?_ (fun hHeld => ?_)
   case refine_1 => exact HSS.out _ HBp.out
   refine pure_ (i := 0) (N := some 84) (v := ?_) (a' := ?_) (bm 13 1) rfl rfl (by kernel_rfl) (fun _ _ _ h => h) (Or.inl ⟨by rfl, ?_⟩) ?_ ?_
   rotate_left
   ·
    intro u
    go_simp
    with_reducible rfl
   rotate_left
   ·
    simp only [pz]
    rfl
   refine take_ (i := 1) (N := some 85) (v := ?_) (a' := ?_) (bm 13 3) rfl rfl (by kernel_rfl) (fun _ _ _ h => h) (Or.inl ⟨by rfl, ?_⟩) hHeld ?_ ?_
   rotate_left
   ·
    rintro u ⟨s1, s2⟩
    go_simp
    with_reducible rfl
   rotate_left
   ·
    simp only [pz]
    rfl
   refine pure_ (i := 2) (N := some 86) (v := ?_) (a' := ?_) (bm 13 7) rfl rfl (by kernel_rfl) (fun _ _ _ h => h) (Or.inl ⟨by rfl, ?_⟩) ?_ ?_
   rotate_left
   ·
    intro u
    go_simp
    with_reducible rfl
   rotate_left
   ·
    simp only [pz]
    rfl
   refine pure_ (i := 3) (N := some 87) (v := ?_) (a' := ?_) (bm 13 15) rfl rfl (by kernel_rfl) (fun _ _ _ h => h) (Or.inl ⟨by rfl, ?_⟩) ?_ ?_
   rotate_left
   ·
    intro u
    go_simp
    with_reducible rfl
   rotate_left
   ·
    simp only [pz]
    rfl
   refine pure_ (i := 5) (N := some 89) (v := ?_) (a' := ?_) (bm 13 47) rfl rfl (by kernel_rfl) (fun _ _ _ h => h) (Or.inl ⟨by rfl, ?_⟩) ?_ ?_
   rotate_left
   ·
    intro u
    go_simp
    with_reducible rfl
   rotate_left
   ·
    simp only [pz]
    rfl
   refine take_ (i := 6) (N := some 90) (v := ?_) (a' := ?_) (bm 13 111) rfl rfl (by kernel_rfl) (fun _ _ _ h => h) (Or.inl ⟨by rfl, ?_⟩) hHeld ?_ ?_
   rotate_left
   ·
    rintro u ⟨s1, s2⟩
    go_simp
    with_reducible rfl
   rotate_left
   ·
    simp only [pz]
    rfl
   refine pure_ (i := 7) (N := some 91) (v := ?_) (a' := ?_) (bm 13 239) rfl rfl (by kernel_rfl) (fun _ _ _ h => h) (Or.inl ⟨by rfl, ?_⟩) ?_ ?_
   rotate_left
   ·
    intro u
    go_simp
    with_reducible rfl
   rotate_left
   ·
    simp only [pz]
    rfl
   refine pure_ (i := 8) (N := some 92) (v := ?_) (a' := ?_) (bm 13 495) rfl rfl (by kernel_rfl) (fun _ _ _ h => h) (Or.inl ⟨by rfl, ?_⟩) ?_ ?_
   rotate_left
   ·
    intro u
    go_simp
    with_reducible rfl
   rotate_left
   ·
    simp only [pz]
    rfl
   clear hHeld y1 y2
   refine join_ (σ := Value × (Option Addr × Nat) × Nat) 2 (bm 13 2047) (fun s => [(88, s.1), (93, .slice s.2.1.1 (U (-m)).length s.2.1.2), (94, .slice (some ⟨s.2.2, 0, none⟩) 1 1)]) (fun s W => Below w0.heap.size w0 W ∧ Own W w0.heap.size s.1 [IntKind.u8.wrap (128 + IntKind.u8.wrap r)] ∧ (Own W w0.heap.size (.slice s.2.1.1 (U (-m)).length s.2.1.2) (U (-m)) ∧ ((.slice s.2.1.1 (U (-m)).length s.2.1.2 : Value).ownBlock = none ∨ (.slice s.2.1.1 (U (-m)).length s.2.1.2 : Value).ownBlock ≠ s.1.ownBlock)) ∧ W.heap[s.2.2]? = some (.cells #[.slice s.2.1.1 (U (-m)).length s.2.1.2] 28 (0, 0))) ?_ ?_
   ·
    rintro ⟨v3, ⟨A0, c0⟩, g⟩ W ⟨f0, f1, ⟨p0, q0⟩, fg⟩
    have F0 := am f0
    have F1 := am f1
    have FG := am fg
    have P0 := am (And.intro p0 q0)
    clear f0 f1 fg p0 q0
    refine norm_ (a' := ?_) ?_ ?_
    rotate_left
    ·
     simp only [putAll, Act.put, List.setIfInBounds_toArray, List.set_cons_zero, List.set_cons_succ]
     rfl
    refine one_ (i := 11) (N := some 95) (bm 13 4095) rfl rfl (by kernel_rfl) (by decide) (fun K hK => ?_)
    refine call_ 79 #[v3, .slice (some ⟨g, 0, none⟩) 1 1] (by rfl) rfl (by go_simp) ?_
    refine (put1_calls (wb := w0) F1.out P0.out.1 P0.out.2 FG.out (by simp) (by omega) F0.out).mono ?_
    rintro e w6 ⟨v6, rfl, hR6, hB6⟩
    refine ⟨_, rfl, ?_⟩
    have HB6 := am hB6
    refine hK.out _ _ (HSS.out _ hB6) (fun _ => ?_)
    clear hK K hB6
    refine norm_ (a' := ?_) ?_ ?_
    rotate_left
    ·
     show Act.put _ (some 95) _ = _
     simp only [pz]
     rfl
    refine pure_ (i := 12) (N := some 2) (v := ?_) (a' := ?_) (bm 13 8191) rfl rfl (by kernel_rfl) (fun _ _ _ h => h) (Or.inl ⟨by rfl, ?_⟩) ?_ ?_
    rotate_left
    ·
     intro u
     go_simp
     with_reducible rfl
    rotate_left
    ·
     simp only [pz]
     rfl
    refine done_ (by kernel_rfl) ?_
    go_wp2
    go_ret
    refine ⟨_, rfl, Kd.R_lower (show Own _ _ _ (opB 5 r (8 * m)) from ?_) HB0.out.size, below_then HB0.out HB0.out.size HB6.out⟩
    rw [show opB 5 r (8 * m) = [(128 + r) % 256] ++ U (-(8 * m / 8)) from if_pos (show 8 * m ≤ 0 by omega), HE.out, ← HWR.out]
    exact hR6
   intro hJ
   refine two_ (i := 4) (j := 9) (Ni := some 88) (Nj := some 93) (bm 13 511) (bm 13 1007) rfl rfl rfl rfl (by kernel_rfl) (by decide) (by decide) (fun K hK => ?_) (fun K hK => ?_)
   ·
    skip
    refine Kd.R_lit_step (Kd.int .u8) _ 5 ?hg (N := 88) ?hd (xs := ([IntKind.u8.wrap (128 + IntKind.u8.wrap r)] : List Int)) (inner := [.int .u8 (IntKind.u8.wrap (128 + IntKind.u8.wrap r))]) (ok := fun _ => True) (okp := fun _ => True) ?hr (Reps.one (show Kd.M (Kd.int .u8) _ _ _ (IntKind.u8.wrap (128 + IntKind.u8.wrap r)) [.int .u8 (IntKind.u8.wrap (128 + IntKind.u8.wrap r))] from rfl) (Reps.none _ _)) (fun _ hk => hk) trivial (Below.refl _ _) (Nat.le_refl _) (by simp) ?_; (case hd => rfl); (case hg => rfl); (case hr => first | (go_simp; done) | (go_simp; rfl))
    intro vL1 wL1 hR hB _ _
    have HB_1 := am (below_then HBp.out HBp.out.size hB)
    have HL_1 := am (Kd.R_lower hR HBp.out.size)
    clear hB hR
    refine hK.out _ _ (HSS.out _ HB_1.out) (fun _ => ?_)
    clear hK K
    refine norm_ (a' := ?_) ?_ ?_
    rotate_left
    ·
     show Act.put _ (some 88) _ = _
     simp only [pz]
     rfl
    refine one_ (i := 9) (N := some 93) (bm 13 1023) rfl rfl (by kernel_rfl) (by decide) (fun K hK => ?_)
    refine call_ 38 #[.int .i64 (-m)] (by rfl) rfl (by go_simp; exact HQ.out) ?_
    refine (leb_Uleb.calls 10 (-m) (U (-m)) _ (U_f (-m) 10 (by omega))).mono ?_
    rintro e wC2 ⟨xC2, rfl, hR, hB⟩
    refine ⟨_, rfl, ?_⟩
    obtain ⟨AC2, cC2, rfl⟩ := Kd.R_slice hR
    have HB_2 := am (below_then HB_1.out HB_1.out.size hB)
    have HX_2 := am (Kd.R_lower hR HB_1.out.size)
    have N_2_0 := am (own_ne HL_1.out hR).2
    have HL_2 := am (Own.below HL_1.out hB)
    clear hB hR
    refine hK.out _ _ (HSS.out _ HB_2.out) (fun _ => ?_)
    clear hK K
    refine norm_ (a' := ?_) ?_ ?_
    rotate_left
    ·
     show Act.put _ (some 93) _ = _
     simp only [pz]
     rfl
    refine one_ (i := 10) (N := some 94) (bm 13 2047) rfl rfl (by kernel_rfl) (by decide) (fun K hK => ?_)
    refine event_step (v := .slice (some ⟨wC2.heap.size, 0, none⟩) 1 1) (w1 := (wC2.alloc (.cells #[.slice AC2 (U (-m)).length cC2] 28))) rfl (by first | (go_simp; done) | (go_simp; rfl)) ?_
    have hB := below_alloc (Below.refl wC2.heap.size wC2) (.cells #[.slice AC2 (U (-m)).length cC2] 28)
    have HB_3 := am (below_then HB_2.out HB_2.out.size hB)
    have hg_3 := blk_new wC2 (.cells #[.slice AC2 (U (-m)).length cC2] 28)
    have HL_3 := am (Own.below HL_2.out hB)
    have HX_3_0 := am (Own.below HX_2.out hB)
    clear hB
    refine hK.out _ _ (HSS.out _ HB_3.out) (fun _ => ?_)
    clear hK K
    refine norm_ (a' := ?_) ?_ ?_
    rotate_left
    ·
     show Act.put _ (some 94) _ = _
     simp only [pz]
     rfl
    exact norm_ (by first | (simp only [putAll, Act.put, List.setIfInBounds_toArray, List.set_cons_zero, List.set_cons_succ]; done) | (simp only [putAll, Act.put, List.setIfInBounds_toArray, List.set_cons_zero, List.set_cons_succ]; rfl)) (hJ (vL1, (AC2, cC2), wC2.heap.size) _ ⟨HB_3.out, HL_3.out, ⟨HX_3_0.out, N_2_0.out⟩, hg_3⟩)
   skip
   refine call_ 38 #[.int .i64 (-m)] (by rfl) rfl (by go_simp; exact HQ.out) ?_
   refine (leb_Uleb.calls 10 (-m) (U (-m)) _ (U_f (-m) 10 (by omega))).mono ?_
   rintro e wC4 ⟨xC4, rfl, hR, hB⟩
   refine ⟨_, rfl, ?_⟩
   obtain ⟨AC4, cC4, rfl⟩ := Kd.R_slice hR
   have HB_4 := am (below_then HBp.out HBp.out.size hB)
   have HX_4 := am (Kd.R_lower hR HBp.out.size)
   clear hB hR
   refine hK.out _ _ (HSS.out _ HB_4.out) (fun _ => ?_)
   clear hK K
   refine norm_ (a' := ?_) ?_ ?_
   rotate_left
   ·
    show Act.put _ (some 93) _ = _
    simp only [pz]
    rfl
   refine two_ (i := 4) (j := 10) (Ni := some 88) (Nj := some 94) (bm 13 1023) (bm 13 2031) rfl rfl rfl rfl (by kernel_rfl) (by decide) (by decide) (fun K hK => ?_) (fun K hK => ?_)
   ·
    skip
    refine Kd.R_lit_step (Kd.int .u8) _ 5 ?hg (N := 88) ?hd (xs := ([IntKind.u8.wrap (128 + IntKind.u8.wrap r)] : List Int)) (inner := [.int .u8 (IntKind.u8.wrap (128 + IntKind.u8.wrap r))]) (ok := fun _ => True) (okp := fun _ => True) ?hr (Reps.one (show Kd.M (Kd.int .u8) _ _ _ (IntKind.u8.wrap (128 + IntKind.u8.wrap r)) [.int .u8 (IntKind.u8.wrap (128 + IntKind.u8.wrap r))] from rfl) (Reps.none _ _)) (fun _ hk => hk) trivial (Below.refl _ _) (Nat.le_refl _) (by simp) ?_; (case hd => rfl); (case hg => rfl); (case hr => first | (go_simp; done) | (go_simp; rfl))
    intro vL5 wL5 hR hB _ _
    have HB_5 := am (below_then HB_4.out HB_4.out.size hB)
    have HL_5 := am (Kd.R_lower hR HB_4.out.size)
    have N_5_0 := am (own_ne HX_4.out hR).1
    have HX_5_0 := am (Own.below HX_4.out hB)
    clear hB hR
    refine hK.out _ _ (HSS.out _ HB_5.out) (fun _ => ?_)
    clear hK K
    refine norm_ (a' := ?_) ?_ ?_
    rotate_left
    ·
     show Act.put _ (some 88) _ = _
     simp only [pz]
     rfl
    refine one_ (i := 10) (N := some 94) (bm 13 2047) rfl rfl (by kernel_rfl) (by decide) (fun K hK => ?_)
    refine event_step (v := .slice (some ⟨wL5.heap.size, 0, none⟩) 1 1) (w1 := (wL5.alloc (.cells #[.slice AC4 (U (-m)).length cC4] 28))) rfl (by first | (go_simp; done) | (go_simp; rfl)) ?_
    have hB := below_alloc (Below.refl wL5.heap.size wL5) (.cells #[.slice AC4 (U (-m)).length cC4] 28)
    have HB_6 := am (below_then HB_5.out HB_5.out.size hB)
    have hg_6 := blk_new wL5 (.cells #[.slice AC4 (U (-m)).length cC4] 28)
    have HL_6 := am (Own.below HL_5.out hB)
    have HX_6_0 := am (Own.below HX_5_0.out hB)
    clear hB
    refine hK.out _ _ (HSS.out _ HB_6.out) (fun _ => ?_)
    clear hK K
    refine norm_ (a' := ?_) ?_ ?_
    rotate_left
    ·
     show Act.put _ (some 94) _ = _
     simp only [pz]
     rfl
    exact norm_ (by first | (simp only [putAll, Act.put, List.setIfInBounds_toArray, List.set_cons_zero, List.set_cons_succ]; done) | (simp only [putAll, Act.put, List.setIfInBounds_toArray, List.set_cons_zero, List.set_cons_succ]; rfl)) (hJ (vL5, (AC4, cC4), wL5.heap.size) _ ⟨HB_6.out, HL_6.out, ⟨HX_6_0.out, N_5_0.out⟩, hg_6⟩)
   skip
   refine event_step (v := .slice (some ⟨wC4.heap.size, 0, none⟩) 1 1) (w1 := (wC4.alloc (.cells #[.slice AC4 (U (-m)).length cC4] 28))) rfl (by first | (go_simp; done) | (go_simp; rfl)) ?_
   have hB := below_alloc (Below.refl wC4.heap.size wC4) (.cells #[.slice AC4 (U (-m)).length cC4] 28)
   have HB_7 := am (below_then HB_4.out HB_4.out.size hB)
   have hg_7 := blk_new wC4 (.cells #[.slice AC4 (U (-m)).length cC4] 28)
   have HX_7_0 := am (Own.below HX_4.out hB)
   clear hB
   refine hK.out _ _ (HSS.out _ HB_7.out) (fun _ => ?_)
   clear hK K
   refine norm_ (a' := ?_) ?_ ?_
   rotate_left
   ·
    show Act.put _ (some 94) _ = _
    simp only [pz]
    rfl
   refine one_ (i := 4) (N := some 88) (bm 13 2047) rfl rfl (by kernel_rfl) (by decide) (fun K hK => ?_)
   refine Kd.R_lit_step (Kd.int .u8) _ 5 ?hg (N := 88) ?hd (xs := ([IntKind.u8.wrap (128 + IntKind.u8.wrap r)] : List Int)) (inner := [.int .u8 (IntKind.u8.wrap (128 + IntKind.u8.wrap r))]) (ok := fun _ => True) (okp := fun _ => True) ?hr (Reps.one (show Kd.M (Kd.int .u8) _ _ _ (IntKind.u8.wrap (128 + IntKind.u8.wrap r)) [.int .u8 (IntKind.u8.wrap (128 + IntKind.u8.wrap r))] from rfl) (Reps.none _ _)) (fun _ hk => hk) trivial (Below.refl _ _) (Nat.le_refl _) (by simp) ?_; (case hd => rfl); (case hg => rfl); (case hr => first | (go_simp; done) | (go_simp; rfl))
   intro vL8 wL8 hR hB _ _
   have HB_8 := am (below_then HB_7.out HB_7.out.size hB)
   have HL_8 := am (Kd.R_lower hR HB_7.out.size)
   have N_8_0 := am (own_ne HX_7_0.out hR).1
   have HX_8_0 := am (Own.below HX_7_0.out hB)
   have hg_8 := blk_below hg_7 hB
   clear hB hR
   refine hK.out _ _ (HSS.out _ HB_8.out) (fun _ => ?_)
   clear hK K
   refine norm_ (a' := ?_) ?_ ?_
   rotate_left
   ·
    show Act.put _ (some 88) _ = _
    simp only [pz]
    rfl
   exact norm_ (by first | (simp only [putAll, Act.put, List.setIfInBounds_toArray, List.set_cons_zero, List.set_cons_succ]; done) | (simp only [putAll, Act.put, List.setIfInBounds_toArray, List.set_cons_zero, List.set_cons_succ]; rfl)) (hJ (vL8, (AC4, cC4), wC4.heap.size) _ ⟨HB_8.out, HL_8.out, ⟨HX_8_0.out, N_8_0.out⟩, hg_8⟩)
  have hdd : decide (8 * m ≤ 0) = false := decide_eq_false hd
  have HSS : Aside0 (∀ u, Below w0.heap.size w0 u → u.cell? ⟨w.heap.size, 1, none⟩ = some (.int .i64 r) ∧ u.cell? ⟨w.heap.size, 2, none⟩ = some (.int .i64 (8 * m))) := ⟨fun u hu => ⟨(blk_cell (blk_below HG.out hu) 1).trans rfl, (blk_cell (blk_below HG.out hu) 2).trans rfl⟩⟩
  have HBp : Aside0 (Below w0.heap.size w0 w0.drew) := ⟨below_drew (Below.refl _ _)⟩
  go_upto_region 19 with fail
  clear y0
  refine start_ (n := 12) (S := fun u => u.cell? ⟨w.heap.size, 1, none⟩ = some (.int .i64 r) ∧ u.cell? ⟨w.heap.size, 2, none⟩ = some (.int .i64 (8 * m))) (ds := []) (bm 12 0) (by kernel_rfl) rfl rfl ?_ (fun hHeld => ?_)
  case refine_1 => exact HSS.out _ HBp.out
  refine pure_ (i := 1) (N := some 97) (v := ?_) (a' := ?_) (bm 12 2) rfl rfl (by kernel_rfl) (fun _ _ _ h => h) (Or.inl ⟨by rfl, ?_⟩) ?_ ?_
  rotate_left
  ·
   intro u
   go_simp
   with_reducible rfl
  rotate_left
  ·
   simp only [pz]
   rfl
  refine take_ (i := 2) (N := some 98) (v := ?_) (a' := ?_) (bm 12 6) rfl rfl (by kernel_rfl) (fun _ _ _ h => h) (Or.inl ⟨by rfl, ?_⟩) hHeld ?_ ?_
  rotate_left
  ·
   rintro u ⟨s1, s2⟩
   go_simp
   with_reducible rfl
  rotate_left
  ·
   simp only [pz]
   rfl
  refine pure_ (i := 4) (N := some 100) (v := ?_) (a' := ?_) (bm 12 22) rfl rfl (by kernel_rfl) (fun _ _ _ h => h) (Or.inl ⟨by rfl, ?_⟩) ?_ ?_
  rotate_left
  ·
   intro u
   go_simp
   with_reducible rfl
  rotate_left
  ·
   simp only [pz]
   rfl
  refine take_ (i := 5) (N := some 101) (v := ?_) (a' := ?_) (bm 12 54) rfl rfl (by kernel_rfl) (fun _ _ _ h => h) (Or.inl ⟨by rfl, ?_⟩) hHeld ?_ ?_
  rotate_left
  ·
   rintro u ⟨s1, s2⟩
   go_simp
   with_reducible rfl
  rotate_left
  ·
   simp only [pz]
   rfl
  refine pure_ (i := 6) (N := some 102) (v := ?_) (a' := ?_) (bm 12 118) rfl rfl (by kernel_rfl) (fun _ _ _ h => h) (Or.inl ⟨by rfl, ?_⟩) ?_ ?_
  rotate_left
  ·
   intro u
   go_simp
   with_reducible rfl
  rotate_left
  ·
   simp only [pz]
   rfl
  refine pure_ (i := 7) (N := some 103) (v := ?_) (a' := ?_) (bm 12 246) rfl rfl (by kernel_rfl) (fun _ _ _ h => h) (Or.inl ⟨by rfl, ?_⟩) ?_ ?_
  rotate_left
  ·
   intro u
   go_simp
   with_reducible rfl
  rotate_left
  ·
   simp only [pz]
   rfl
  clear hHeld y1 y2
  refine join_ (σ := Value × (Option Addr × Nat) × (Option Addr × Nat) × Nat) 2 (bm 12 1023) (fun s => [(96, s.1), (99, .slice s.2.1.1 (U r).length s.2.1.2), (104, .slice s.2.2.1.1 (slebL (-m)).length s.2.2.1.2), (105, .slice (some ⟨s.2.2.2, 0, none⟩) 2 2)]) (fun s W => Below w0.heap.size w0 W ∧ Own W w0.heap.size s.1 [17] ∧ (Own W w0.heap.size (.slice s.2.1.1 (U r).length s.2.1.2) (U r) ∧ ((.slice s.2.1.1 (U r).length s.2.1.2 : Value).ownBlock = none ∨ (.slice s.2.1.1 (U r).length s.2.1.2 : Value).ownBlock ≠ s.1.ownBlock)) ∧ (Own W w0.heap.size (.slice s.2.2.1.1 (slebL (-m)).length s.2.2.1.2) (slebL (-m)) ∧ ((.slice s.2.2.1.1 (slebL (-m)).length s.2.2.1.2 : Value).ownBlock = none ∨ (.slice s.2.2.1.1 (slebL (-m)).length s.2.2.1.2 : Value).ownBlock ≠ s.1.ownBlock)) ∧ W.heap[s.2.2.2]? = some (.cells #[.slice s.2.1.1 (U r).length s.2.1.2, .slice s.2.2.1.1 (slebL (-m)).length s.2.2.1.2] 28 (0, 0))) ?_ ?_
  ·
   rintro ⟨v3, ⟨A0, c0⟩, ⟨A1, c1⟩, g⟩ W ⟨f0, f1, ⟨p0, q0⟩, ⟨p1, q1⟩, fg⟩
   have F0 := am f0
   have F1 := am f1
   have FG := am fg
   have P0 := am (And.intro p0 q0)
   have P1 := am (And.intro p1 q1)
   clear f0 f1 fg p0 q0 p1 q1
   refine norm_ (a' := ?_) ?_ ?_
   rotate_left
   ·
    simp only [putAll, Act.put, List.setIfInBounds_toArray, List.set_cons_zero, List.set_cons_succ]
    rfl
   refine one_ (i := 10) (N := some 106) (bm 12 2047) rfl rfl (by kernel_rfl) (by decide) (fun K hK => ?_)
   refine call_ 79 #[v3, .slice (some ⟨g, 0, none⟩) 2 2] (by rfl) rfl (by go_simp) ?_
   refine (put2_calls (wb := w0) F1.out P0.out.1 P1.out.1 P0.out.2 P1.out.2 FG.out (by simp) (by omega) (by omega) F0.out).mono ?_
   rintro e w6 ⟨v6, rfl, hR6, hB6⟩
   refine ⟨_, rfl, ?_⟩
   have HB6 := am hB6
   refine hK.out _ _ (HSS.out _ hB6) (fun _ => ?_)
   clear hK K hB6
   refine norm_ (a' := ?_) ?_ ?_
   rotate_left
   ·
    show Act.put _ (some 106) _ = _
    simp only [pz]
    rfl
   refine pure_ (i := 11) (N := some 2) (v := ?_) (a' := ?_) (bm 12 4095) rfl rfl (by kernel_rfl) (fun _ _ _ h => h) (Or.inl ⟨by rfl, ?_⟩) ?_ ?_
   rotate_left
   ·
    intro u
    go_simp
    with_reducible rfl
   rotate_left
   ·
    simp only [pz]
    rfl
   refine done_ (by kernel_rfl) ?_
   go_wp2
   go_ret
   refine ⟨_, rfl, Kd.R_lower (show Own _ _ _ (opB 5 r (8 * m)) from ?_) HB0.out.size, below_then HB0.out HB0.out.size HB6.out⟩
   rw [show opB 5 r (8 * m) = [17] ++ U r ++ slebL (-(8 * m / 8)) from if_neg (show ¬ 8 * m ≤ 0 by omega), HE.out]
   exact hR6
  intro hJ
  refine two_ (i := 0) (j := 3) (Ni := some 96) (Nj := some 99) (bm 12 247) (bm 12 254) rfl rfl rfl rfl (by kernel_rfl) (by decide) (by decide) (fun K hK => ?_) (fun K hK => ?_)
  ·
   skip
   refine Kd.R_lit_step (Kd.int .u8) _ 5 ?hg (N := 96) ?hd (xs := ([17] : List Int)) (inner := [.int .u8 (17)]) (ok := fun _ => True) (okp := fun _ => True) ?hr (Reps.one (show Kd.M (Kd.int .u8) _ _ _ (17) [.int .u8 (17)] from rfl) (Reps.none _ _)) (fun _ hk => hk) trivial (Below.refl _ _) (Nat.le_refl _) (by simp) ?_; (case hd => rfl); (case hg => rfl); (case hr => first | (go_simp; done) | (go_simp; rfl))
   intro vL1 wL1 hR hB _ _
   have HB_1 := am (below_then HBp.out HBp.out.size hB)
   have HL_1 := am (Kd.R_lower hR HBp.out.size)
   clear hB hR
   refine hK.out _ _ (HSS.out _ HB_1.out) (fun _ => ?_)
   clear hK K
   refine norm_ (a' := ?_) ?_ ?_
   rotate_left
   ·
    show Act.put _ (some 96) _ = _
    simp only [pz]
    rfl
   refine one_ (i := 3) (N := some 99) (bm 12 255) rfl rfl (by kernel_rfl) (by decide) (fun K hK => ?_)
   refine call_ 38 #[.int .i64 r] (by rfl) rfl (by go_simp) ?_
   refine (leb_Uleb.calls 10 (r) (U (r)) _ (U_f (r) 10 (by omega))).mono ?_
   rintro e wC2 ⟨xC2, rfl, hR, hB⟩
   refine ⟨_, rfl, ?_⟩
   obtain ⟨AC2, cC2, rfl⟩ := Kd.R_slice hR
   have HB_2 := am (below_then HB_1.out HB_1.out.size hB)
   have HX_2 := am (Kd.R_lower hR HB_1.out.size)
   have N_2_0 := am (own_ne HL_1.out hR).2
   have HL_2 := am (Own.below HL_1.out hB)
   clear hB hR
   refine hK.out _ _ (HSS.out _ HB_2.out) (fun _ => ?_)
   clear hK K
   refine norm_ (a' := ?_) ?_ ?_
   rotate_left
   ·
    show Act.put _ (some 99) _ = _
    simp only [pz]
    rfl
   refine one_ (i := 8) (N := some 104) (bm 12 511) rfl rfl (by kernel_rfl) (by decide) (fun K hK => ?_)
   refine call_ 37 #[.int .i64 (-m)] (by rfl) rfl (by go_simp; exact HQ.out) ?_
   refine (leb_Sleb.calls 10 (-m) (slebL (-m)) _ (sleb_f (-m) (by omega) (by omega) 10 (by omega))).mono ?_
   rintro e wC3 ⟨xC3, rfl, hR, hB⟩
   refine ⟨_, rfl, ?_⟩
   obtain ⟨AC3, cC3, rfl⟩ := Kd.R_slice hR
   have HB_3 := am (below_then HB_2.out HB_2.out.size hB)
   have HX_3 := am (Kd.R_lower hR HB_2.out.size)
   have N_3_1 := am (own_ne HL_2.out hR).2
   have HL_3 := am (Own.below HL_2.out hB)
   have HX_3_0 := am (Own.below HX_2.out hB)
   clear hB hR
   refine hK.out _ _ (HSS.out _ HB_3.out) (fun _ => ?_)
   clear hK K
   refine norm_ (a' := ?_) ?_ ?_
   rotate_left
   ·
    show Act.put _ (some 104) _ = _
    simp only [pz]
    rfl
   refine one_ (i := 9) (N := some 105) (bm 12 1023) rfl rfl (by kernel_rfl) (by decide) (fun K hK => ?_)
   refine event_step (v := .slice (some ⟨wC3.heap.size, 0, none⟩) 2 2) (w1 := (wC3.alloc (.cells #[.slice AC2 (U r).length cC2, .slice AC3 (slebL (-m)).length cC3] 28))) rfl (by first | (go_simp; done) | (go_simp; rfl)) ?_
   have hB := below_alloc (Below.refl wC3.heap.size wC3) (.cells #[.slice AC2 (U r).length cC2, .slice AC3 (slebL (-m)).length cC3] 28)
   have HB_4 := am (below_then HB_3.out HB_3.out.size hB)
   have hg_4 := blk_new wC3 (.cells #[.slice AC2 (U r).length cC2, .slice AC3 (slebL (-m)).length cC3] 28)
   have HL_4 := am (Own.below HL_3.out hB)
   have HX_4_0 := am (Own.below HX_3_0.out hB)
   have HX_4_1 := am (Own.below HX_3.out hB)
   clear hB
   refine hK.out _ _ (HSS.out _ HB_4.out) (fun _ => ?_)
   clear hK K
   refine norm_ (a' := ?_) ?_ ?_
   rotate_left
   ·
    show Act.put _ (some 105) _ = _
    simp only [pz]
    rfl
   exact norm_ (by first | (simp only [putAll, Act.put, List.setIfInBounds_toArray, List.set_cons_zero, List.set_cons_succ]; done) | (simp only [putAll, Act.put, List.setIfInBounds_toArray, List.set_cons_zero, List.set_cons_succ]; rfl)) (hJ (vL1, (AC2, cC2), (AC3, cC3), wC3.heap.size) _ ⟨HB_4.out, HL_4.out, ⟨HX_4_0.out, N_2_0.out⟩, ⟨HX_4_1.out, N_3_1.out⟩, hg_4⟩)
  skip
  refine call_ 38 #[.int .i64 r] (by rfl) rfl (by go_simp) ?_
  refine (leb_Uleb.calls 10 (r) (U (r)) _ (U_f (r) 10 (by omega))).mono ?_
  rintro e wC5 ⟨xC5, rfl, hR, hB⟩
  refine ⟨_, rfl, ?_⟩
  obtain ⟨AC5, cC5, rfl⟩ := Kd.R_slice hR
  have HB_5 := am (below_then HBp.out HBp.out.size hB)
  have HX_5 := am (Kd.R_lower hR HBp.out.size)
  clear hB hR
  refine hK.out _ _ (HSS.out _ HB_5.out) (fun _ => ?_)
  clear hK K
  refine norm_ (a' := ?_) ?_ ?_
  rotate_left
  ·
   show Act.put _ (some 99) _ = _
   simp only [pz]
   rfl
  refine two_ (i := 0) (j := 8) (Ni := some 96) (Nj := some 104) (bm 12 255) (bm 12 510) rfl rfl rfl rfl (by kernel_rfl) (by decide) (by decide) (fun K hK => ?_) (fun K hK => ?_)
  ·
   skip
   refine Kd.R_lit_step (Kd.int .u8) _ 5 ?hg (N := 96) ?hd (xs := ([17] : List Int)) (inner := [.int .u8 (17)]) (ok := fun _ => True) (okp := fun _ => True) ?hr (Reps.one (show Kd.M (Kd.int .u8) _ _ _ (17) [.int .u8 (17)] from rfl) (Reps.none _ _)) (fun _ hk => hk) trivial (Below.refl _ _) (Nat.le_refl _) (by simp) ?_; (case hd => rfl); (case hg => rfl); (case hr => first | (go_simp; done) | (go_simp; rfl))
   intro vL6 wL6 hR hB _ _
   have HB_6 := am (below_then HB_5.out HB_5.out.size hB)
   have HL_6 := am (Kd.R_lower hR HB_5.out.size)
   have N_6_0 := am (own_ne HX_5.out hR).1
   have HX_6_0 := am (Own.below HX_5.out hB)
   clear hB hR
   refine hK.out _ _ (HSS.out _ HB_6.out) (fun _ => ?_)
   clear hK K
   refine norm_ (a' := ?_) ?_ ?_
   rotate_left
   ·
    show Act.put _ (some 96) _ = _
    simp only [pz]
    rfl
   refine one_ (i := 8) (N := some 104) (bm 12 511) rfl rfl (by kernel_rfl) (by decide) (fun K hK => ?_)
   refine call_ 37 #[.int .i64 (-m)] (by rfl) rfl (by go_simp; exact HQ.out) ?_
   refine (leb_Sleb.calls 10 (-m) (slebL (-m)) _ (sleb_f (-m) (by omega) (by omega) 10 (by omega))).mono ?_
   rintro e wC7 ⟨xC7, rfl, hR, hB⟩
   refine ⟨_, rfl, ?_⟩
   obtain ⟨AC7, cC7, rfl⟩ := Kd.R_slice hR
   have HB_7 := am (below_then HB_6.out HB_6.out.size hB)
   have HX_7 := am (Kd.R_lower hR HB_6.out.size)
   have N_7_1 := am (own_ne HL_6.out hR).2
   have HL_7 := am (Own.below HL_6.out hB)
   have HX_7_0 := am (Own.below HX_6_0.out hB)
   clear hB hR
   refine hK.out _ _ (HSS.out _ HB_7.out) (fun _ => ?_)
   clear hK K
   refine norm_ (a' := ?_) ?_ ?_
   rotate_left
   ·
    show Act.put _ (some 104) _ = _
    simp only [pz]
    rfl
   refine one_ (i := 9) (N := some 105) (bm 12 1023) rfl rfl (by kernel_rfl) (by decide) (fun K hK => ?_)
   refine event_step (v := .slice (some ⟨wC7.heap.size, 0, none⟩) 2 2) (w1 := (wC7.alloc (.cells #[.slice AC5 (U r).length cC5, .slice AC7 (slebL (-m)).length cC7] 28))) rfl (by first | (go_simp; done) | (go_simp; rfl)) ?_
   have hB := below_alloc (Below.refl wC7.heap.size wC7) (.cells #[.slice AC5 (U r).length cC5, .slice AC7 (slebL (-m)).length cC7] 28)
   have HB_8 := am (below_then HB_7.out HB_7.out.size hB)
   have hg_8 := blk_new wC7 (.cells #[.slice AC5 (U r).length cC5, .slice AC7 (slebL (-m)).length cC7] 28)
   have HL_8 := am (Own.below HL_7.out hB)
   have HX_8_0 := am (Own.below HX_7_0.out hB)
   have HX_8_1 := am (Own.below HX_7.out hB)
   clear hB
   refine hK.out _ _ (HSS.out _ HB_8.out) (fun _ => ?_)
   clear hK K
   refine norm_ (a' := ?_) ?_ ?_
   rotate_left
   ·
    show Act.put _ (some 105) _ = _
    simp only [pz]
    rfl
   exact norm_ (by first | (simp only [putAll, Act.put, List.setIfInBounds_toArray, List.set_cons_zero, List.set_cons_succ]; done) | (simp only [putAll, Act.put, List.setIfInBounds_toArray, List.set_cons_zero, List.set_cons_succ]; rfl)) (hJ (vL6, (AC5, cC5), (AC7, cC7), wC7.heap.size) _ ⟨HB_8.out, HL_8.out, ⟨HX_8_0.out, N_6_0.out⟩, ⟨HX_8_1.out, N_7_1.out⟩, hg_8⟩)
  skip
  refine call_ 37 #[.int .i64 (-m)] (by rfl) rfl (by go_simp; exact HQ.out) ?_
  refine (leb_Sleb.calls 10 (-m) (slebL (-m)) _ (sleb_f (-m) (by omega) (by omega) 10 (by omega))).mono ?_
  rintro e wC9 ⟨xC9, rfl, hR, hB⟩
  refine ⟨_, rfl, ?_⟩
  obtain ⟨AC9, cC9, rfl⟩ := Kd.R_slice hR
  have HB_9 := am (below_then HB_5.out HB_5.out.size hB)
  have HX_9 := am (Kd.R_lower hR HB_5.out.size)
  have HX_9_0 := am (Own.below HX_5.out hB)
  clear hB hR
  refine hK.out _ _ (HSS.out _ HB_9.out) (fun _ => ?_)
  clear hK K
  refine norm_ (a' := ?_) ?_ ?_
  rotate_left
  ·
   show Act.put _ (some 104) _ = _
   simp only [pz]
   rfl
  refine two_ (i := 0) (j := 9) (Ni := some 96) (Nj := some 105) (bm 12 511) (bm 12 1022) rfl rfl rfl rfl (by kernel_rfl) (by decide) (by decide) (fun K hK => ?_) (fun K hK => ?_)
  ·
   skip
   refine Kd.R_lit_step (Kd.int .u8) _ 5 ?hg (N := 96) ?hd (xs := ([17] : List Int)) (inner := [.int .u8 (17)]) (ok := fun _ => True) (okp := fun _ => True) ?hr (Reps.one (show Kd.M (Kd.int .u8) _ _ _ (17) [.int .u8 (17)] from rfl) (Reps.none _ _)) (fun _ hk => hk) trivial (Below.refl _ _) (Nat.le_refl _) (by simp) ?_; (case hd => rfl); (case hg => rfl); (case hr => first | (go_simp; done) | (go_simp; rfl))
   intro vL10 wL10 hR hB _ _
   have HB_10 := am (below_then HB_9.out HB_9.out.size hB)
   have HL_10 := am (Kd.R_lower hR HB_9.out.size)
   have N_10_0 := am (own_ne HX_9_0.out hR).1
   have N_10_1 := am (own_ne HX_9.out hR).1
   have HX_10_0 := am (Own.below HX_9_0.out hB)
   have HX_10_1 := am (Own.below HX_9.out hB)
   clear hB hR
   refine hK.out _ _ (HSS.out _ HB_10.out) (fun _ => ?_)
   clear hK K
   refine norm_ (a' := ?_) ?_ ?_
   rotate_left
   ·
    show Act.put _ (some 96) _ = _
    simp only [pz]
    rfl
   refine one_ (i := 9) (N := some 105) (bm 12 1023) rfl rfl (by kernel_rfl) (by decide) (fun K hK => ?_)
   refine event_step (v := .slice (some ⟨wL10.heap.size, 0, none⟩) 2 2) (w1 := (wL10.alloc (.cells #[.slice AC5 (U r).length cC5, .slice AC9 (slebL (-m)).length cC9] 28))) rfl (by first | (go_simp; done) | (go_simp; rfl)) ?_
   have hB := below_alloc (Below.refl wL10.heap.size wL10) (.cells #[.slice AC5 (U r).length cC5, .slice AC9 (slebL (-m)).length cC9] 28)
   have HB_11 := am (below_then HB_10.out HB_10.out.size hB)
   have hg_11 := blk_new wL10 (.cells #[.slice AC5 (U r).length cC5, .slice AC9 (slebL (-m)).length cC9] 28)
   have HL_11 := am (Own.below HL_10.out hB)
   have HX_11_0 := am (Own.below HX_10_0.out hB)
   have HX_11_1 := am (Own.below HX_10_1.out hB)
   clear hB
   refine hK.out _ _ (HSS.out _ HB_11.out) (fun _ => ?_)
   clear hK K
   refine norm_ (a' := ?_) ?_ ?_
   rotate_left
   ·
    show Act.put _ (some 105) _ = _
    simp only [pz]
    rfl
   exact norm_ (by first | (simp only [putAll, Act.put, List.setIfInBounds_toArray, List.set_cons_zero, List.set_cons_succ]; done) | (simp only [putAll, Act.put, List.setIfInBounds_toArray, List.set_cons_zero, List.set_cons_succ]; rfl)) (hJ (vL10, (AC5, cC5), (AC9, cC9), wL10.heap.size) _ ⟨HB_11.out, HL_11.out, ⟨HX_11_0.out, N_10_0.out⟩, ⟨HX_11_1.out, N_10_1.out⟩, hg_11⟩)
  skip
  refine event_step (v := .slice (some ⟨wC9.heap.size, 0, none⟩) 2 2) (w1 := (wC9.alloc (.cells #[.slice AC5 (U r).length cC5, .slice AC9 (slebL (-m)).length cC9] 28))) rfl (by first | (go_simp; done) | (go_simp; rfl)) ?_
  have hB := below_alloc (Below.refl wC9.heap.size wC9) (.cells #[.slice AC5 (U r).length cC5, .slice AC9 (slebL (-m)).length cC9] 28)
  have HB_12 := am (below_then HB_9.out HB_9.out.size hB)
  have hg_12 := blk_new wC9 (.cells #[.slice AC5 (U r).length cC5, .slice AC9 (slebL (-m)).length cC9] 28)
  have HX_12_0 := am (Own.below HX_9_0.out hB)
  have HX_12_1 := am (Own.below HX_9.out hB)
  clear hB
  refine hK.out _ _ (HSS.out _ HB_12.out) (fun _ => ?_)
  clear hK K
  refine norm_ (a' := ?_) ?_ ?_
  rotate_left
  ·
   show Act.put _ (some 105) _ = _
   simp only [pz]
   rfl
  refine one_ (i := 0) (N := some 96) (bm 12 1023) rfl rfl (by kernel_rfl) (by decide) (fun K hK => ?_)
  refine Kd.R_lit_step (Kd.int .u8) _ 5 ?hg (N := 96) ?hd (xs := ([17] : List Int)) (inner := [.int .u8 (17)]) (ok := fun _ => True) (okp := fun _ => True) ?hr (Reps.one (show Kd.M (Kd.int .u8) _ _ _ (17) [.int .u8 (17)] from rfl) (Reps.none _ _)) (fun _ hk => hk) trivial (Below.refl _ _) (Nat.le_refl _) (by simp) ?_; (case hd => rfl); (case hg => rfl); (case hr => first | (go_simp; done) | (go_simp; rfl))
  intro vL13 wL13 hR hB _ _
  have HB_13 := am (below_then HB_12.out HB_12.out.size hB)
  have HL_13 := am (Kd.R_lower hR HB_12.out.size)
  have N_13_0 := am (own_ne HX_12_0.out hR).1
  have N_13_1 := am (own_ne HX_12_1.out hR).1
  have HX_13_0 := am (Own.below HX_12_0.out hB)
  have HX_13_1 := am (Own.below HX_12_1.out hB)
  have hg_13 := blk_below hg_12 hB
  clear hB hR
  refine hK.out _ _ (HSS.out _ HB_13.out) (fun _ => ?_)
  clear hK K
  refine norm_ (a' := ?_) ?_ ?_
  rotate_left
  ·
   show Act.put _ (some 96) _ = _
   simp only [pz]
   rfl
  exact norm_ (by first | (simp only [putAll, Act.put, List.setIfInBounds_toArray, List.set_cons_zero, List.set_cons_succ]; done) | (simp only [putAll, Act.put, List.setIfInBounds_toArray, List.set_cons_zero, List.set_cons_succ]; rfl)) (hJ (vL13, (AC5, cC5), (AC9, cC9), wC9.heap.size) _ ⟨HB_13.out, HL_13.out, ⟨HX_13_0.out, N_13_0.out⟩, ⟨HX_13_1.out, N_13_1.out⟩, hg_13⟩)
 ·
  obtain ⟨h0, h1⟩ := may6 HM.out
  go_wp2_with ((with_reducible refine gate_dst (N := 113) rfl ?_); refine stopB ?stop)
  case stop =>
   unfold StopB
   refine Kd.R_lit (Kd.int .u8) _ 5 ?hg (N := 113) ?hd (xs := ([192 + r] : List Int)) (inner := [.int .u8 (192 + r)]) (ok := fun _ => True) (okp := fun _ => True) ?hr (Reps.one (show Kd.M (Kd.int .u8) _ _ _ (192 + r) [.int .u8 (192 + r)] from rfl) (Reps.none _ _)) (fun _ hk => hk) trivial (Below.refl _ _) (Nat.le_refl _) (by simp) ?_
   case hd => rfl
   case hg => rfl
   case hr => first | (go_simp; done) | (go_simp; rfl)
   intro v3 w3 hR3 hB3 _ _
   go_wp2
   go_ret
   exact ⟨_, rfl, Kd.R_lower (by rw [show opB 6 r n = [(192 + r) % 256] from rfl, show (192 + r) % 256 = 192 + r by omega]; exact hR3) HB0.out.size, below_then HB0.out HB0.out.size hB3⟩
 ·
  skip
  go_wp2_with ((with_reducible refine gate_dst (N := 116) rfl ?_); refine stopB ?stop)
  case stop =>
   unfold StopB
   refine Kd.R_lit (Kd.int .u8) _ 5 ?hg (N := 116) ?hd (xs := ([7] : List Int)) (inner := [.int .u8 (7)]) (ok := fun _ => True) (okp := fun _ => True) ?hr (Reps.one (show Kd.M (Kd.int .u8) _ _ _ (7) [.int .u8 (7)] from rfl) (Reps.none _ _)) (fun _ hk => hk) trivial (Below.refl _ _) (Nat.le_refl _) (by simp) ?_
   case hd => rfl
   case hg => rfl
   case hr => first | (go_simp; done) | (go_simp; rfl)
   intro v3 w3 hR3 hB3 _ _
   have HV := am (Kd.R_lower hR3 (Nat.le_refl _))
   have z1 : w3.cell? ⟨w.heap.size, 1, none⟩ = some (.int .i64 r) := (blk_cell (blk_below HG.out hB3) 1).trans rfl
   have HB3 := am hB3
   clear hB3 y0 y1 y2 hR3
   go_wp2_with fail
   refine (leb_Uleb.calls 10 r (U r) w3 (U_f r 10 (by omega))).mono ?_
   rintro e w4 ⟨v4, rfl, hR4, hB4⟩
   have HN := am (own_ne HV.out hR4).2
   have HV4 := am (Own.below HV.out hB4)
   have HB4 := am (below_then HB3.out HB3.out.size hB4)
   have HX := am (Kd.R_lower hR4 HB3.out.size)
   obtain ⟨A4, c4, rfl⟩ := Kd.R_slice hR4
   clear hR4 hB4
   go_wp2_with fail
   have hG5 := blk_new w4 (.cells #[.slice A4 (U r).length c4] 28)
   have hB5 := below_alloc (Below.refl w4.heap.size w4) (.cells #[.slice A4 (U r).length c4] 28)
   obtain ⟨w5, hw5⟩ : ∃ w5, w5 = w4.alloc (.cells #[.slice A4 (U r).length c4] 28) := ⟨_, rfl⟩
   rw [← hw5] at hG5 hB5 ⊢
   refine (put1_calls (wb := w0) (Own.below HV4.out hB5) (Own.below HX.out hB5) HN.out hG5 (by simp) (by omega) (below_then HB4.out HB4.out.size hB5)).mono ?_
   rintro e w6 ⟨u, rfl, hR6, hB6⟩
   go_wp2
   go_ret
   exact ⟨_, rfl, Kd.R_lower (show Own _ _ _ (opB 7 r n) from hR6) HB0.out.size, below_then HB0.out HB0.out.size hB6⟩
 ·
  skip
  go_wp2_with ((with_reducible refine gate_dst (N := 124) rfl ?_); refine stopB ?stop)
  case stop =>
   unfold StopB
   refine Kd.R_lit (Kd.int .u8) _ 5 ?hg (N := 124) ?hd (xs := ([8] : List Int)) (inner := [.int .u8 (8)]) (ok := fun _ => True) (okp := fun _ => True) ?hr (Reps.one (show Kd.M (Kd.int .u8) _ _ _ (8) [.int .u8 (8)] from rfl) (Reps.none _ _)) (fun _ hk => hk) trivial (Below.refl _ _) (Nat.le_refl _) (by simp) ?_
   case hd => rfl
   case hg => rfl
   case hr => first | (go_simp; done) | (go_simp; rfl)
   intro v3 w3 hR3 hB3 _ _
   have HV := am (Kd.R_lower hR3 (Nat.le_refl _))
   have z1 : w3.cell? ⟨w.heap.size, 1, none⟩ = some (.int .i64 r) := (blk_cell (blk_below HG.out hB3) 1).trans rfl
   have HB3 := am hB3
   clear hB3 y0 y1 y2 hR3
   go_wp2_with fail
   refine (leb_Uleb.calls 10 r (U r) w3 (U_f r 10 (by omega))).mono ?_
   rintro e w4 ⟨v4, rfl, hR4, hB4⟩
   have HN := am (own_ne HV.out hR4).2
   have HV4 := am (Own.below HV.out hB4)
   have HB4 := am (below_then HB3.out HB3.out.size hB4)
   have HX := am (Kd.R_lower hR4 HB3.out.size)
   obtain ⟨A4, c4, rfl⟩ := Kd.R_slice hR4
   clear hR4 hB4
   go_wp2_with fail
   have hG5 := blk_new w4 (.cells #[.slice A4 (U r).length c4] 28)
   have hB5 := below_alloc (Below.refl w4.heap.size w4) (.cells #[.slice A4 (U r).length c4] 28)
   obtain ⟨w5, hw5⟩ : ∃ w5, w5 = w4.alloc (.cells #[.slice A4 (U r).length c4] 28) := ⟨_, rfl⟩
   rw [← hw5] at hG5 hB5 ⊢
   refine (put1_calls (wb := w0) (Own.below HV4.out hB5) (Own.below HX.out hB5) HN.out hG5 (by simp) (by omega) (below_then HB4.out HB4.out.size hB5)).mono ?_
   rintro e w6 ⟨u, rfl, hR6, hB6⟩
   go_wp2
   go_ret
   exact ⟨_, rfl, Kd.R_lower (show Own _ _ _ (opB 8 r n) from hR6) HB0.out.size, below_then HB0.out HB0.out.size hB6⟩
 ·
  skip
  go_wp2_with ((with_reducible refine gate_dst (N := 132) rfl ?_); refine stopB ?stop)
  case stop =>
   unfold StopB
   refine Kd.R_lit (Kd.int .u8) _ 5 ?hg (N := 132) ?hd (xs := ([10] : List Int)) (inner := [.int .u8 (10)]) (ok := fun _ => True) (okp := fun _ => True) ?hr (Reps.one (show Kd.M (Kd.int .u8) _ _ _ (10) [.int .u8 (10)] from rfl) (Reps.none _ _)) (fun _ hk => hk) trivial (Below.refl _ _) (Nat.le_refl _) (by simp) ?_
   case hd => rfl
   case hg => rfl
   case hr => first | (go_simp; done) | (go_simp; rfl)
   intro v3 w3 hR3 hB3 _ _
   go_wp2
   go_ret
   exact ⟨_, rfl, Kd.R_lower (by rw [show opB 9 r n = [10] from rfl]; exact hR3) HB0.out.size, below_then HB0.out HB0.out.size hB3⟩
 skip
 go_wp2_with ((with_reducible refine gate_dst (N := 135) rfl ?_); refine stopB ?stop)
 case stop =>
  unfold StopB
  refine Kd.R_lit (Kd.int .u8) _ 5 ?hg (N := 135) ?hd (xs := ([11] : List Int)) (inner := [.int .u8 (11)]) (ok := fun _ => True) (okp := fun _ => True) ?hr (Reps.one (show Kd.M (Kd.int .u8) _ _ _ (11) [.int .u8 (11)] from rfl) (Reps.none _ _)) (fun _ hk => hk) trivial (Below.refl _ _) (Nat.le_refl _) (by simp) ?_
  case hd => rfl
  case hg => rfl
  case hr => first | (go_simp; done) | (go_simp; rfl)
  intro v3 w3 hR3 hB3 _ _
  go_wp2
  go_ret
  exact ⟨_, rfl, Kd.R_lower (by rw [show opB 10 r n = [11] from rfl]; exact hR3) HB0.out.size, below_then HB0.out HB0.out.size hB3⟩
end Go.Proofs.Ytfgfnflhdabmcaa.CfaB
end
section
namespace Go.Proofs.Ytfgfnflhdabmcaa.G
open Go.RowKit Go.Proofs.YtfgfnflhdabmcaaW.PrintWords Go.Proofs.YtfgfnflhdabmcaaW.PrintLast Go.Proofs.YtfgfnflhdabmcaaW.PrintMore
attribute [local go_sem] max2_int min2_int max_two min_two max_three min_three max_four min_four
def cfa_Op_bytes.f (k : Nat) (a0_0 a0_1 a0_2 : Int) : Option (List Int) := if mayF a0_0 a0_1 a0_2 = true then some (CfaB.opB a0_0 a0_1 a0_2) else none
theorem cfa_Op_bytes.mono : ∀ a0 a1 a2 k, LeO (cfa_Op_bytes.f k a0 a1 a2) (cfa_Op_bytes.f (k + 1) a0 a1 a2) := fun _ _ _ _ => LeO.refl _
theorem cfa_Op_bytes.calls (k : Nat) (a0_0 : Int) (a0_1 : Int) (a0_2 : Int) (r : List Int) (w : World) (h : cfa_Op_bytes.f k a0_0 a0_1 a0_2 = some r) :
    Calls Try.prog 59 #[.agg #[.int .i64 a0_0, .int .i64 a0_1, .int .i64 a0_2]] w fun e w' => ∃ v0_ : Value, e = .returned (v0_) ∧ Kd.R (Kd.int .u8) 5 w' w.heap.size (fun _ => True) v0_ r ∧ Below w.heap.size w w' := by
 unfold cfa_Op_bytes.f at h
 split at h
 case isFalse => cases h
 rename_i hb
 obtain rfl := Option.some.inj h
 exact CfaB.bytes_calls a0_0 a0_1 a0_2 hb w
end Go.Proofs.Ytfgfnflhdabmcaa.G
end
