/- The reference's table of frame rules in memory: one block of 77 cells and two rows of its own. -/
import Derived.Test.YtngddlihppomhaaCfaTab
namespace Go.Proofs.Ytngddlihppomhaa.CfaR
set_option linter.unusedVariables false
set_option linter.unusedSimpArgs false
open Go.RowKit Go.Proofs.Ytngddlihppomhaa.G Go.Proofs.YtngddlihppomhaaW.PrintWords Go.Proofs.YtngddlihppomhaaW.PrintLast Go.Proofs.YtngddlihppomhaaW.PrintMore Go.Proofs.Ytngddlihppomhaa.Cfa

theorem info53 : (Try.prog.info? 53).map (fun i => (i.zero, i.size, i.bytes)) = some (some (.agg (Array.replicate 37 (.int .i64 0))), 37, 296) := by kernel_rfl
def cells (rv kv : Value) (t : T) : List Value := rv :: (nums .i64 t.now ++ (nums .i64 t.first ++ [kv, .int .i64 t.size]))
/-- The table t lies in block g. -/
structure Tab (w : World) (base g : Nat) (t : T) (rv kv : Value) : Prop where
  good : Cfa.Good t
  lo : base ≤ g
  blk : w.heap[g]? = some (.cells (cells rv kv t).toArray 79 (0, 0))
  rows : Kd.R rowK 53 w base (fun k => k ≠ g ∧ some k ≠ kv.ownBlock) rv t.rows
  kept : Kd.R rowK 53 w base (fun k => k ≠ g ∧ some k ≠ rv.ownBlock) kv t.kept
section
variable {w w' : World} {base g : Nat} {t t' : T} {rv kv rv' kv' : Value}
theorem cells_len (h : Cfa.Good t) : (cells rv kv t).length = 77 := by
  simp [cells, nums_length, h.now, h.first]
theorem cells_rows : (cells rv kv t)[0]? = some rv := rfl
theorem cells_now (h : Cfa.Good t) (j : Nat) (hj : j < 37) : (cells rv kv t)[1 + j]? = some (.int .i64 (t.now.getD j 0)) := by
  rw [cells, Nat.add_comm, List.getElem?_cons_succ, List.getElem?_append_left (by rw [nums_length, h.now]; exact hj)]
  exact nums_get (by rw [h.now]; exact hj)
theorem cells_first (h : Cfa.Good t) (j : Nat) (hj : j < 37) : (cells rv kv t)[38 + j]? = some (.int .i64 (t.first.getD j 0)) := by
  rw [cells, show 38 + j = (37 + j) + 1 from by omega, List.getElem?_cons_succ, List.getElem?_append_right (by rw [nums_length, h.now]; omega), nums_length, h.now, Nat.add_sub_cancel_left,
    List.getElem?_append_left (by rw [nums_length, h.first]; exact hj)]
  exact nums_get (by rw [h.first]; exact hj)
theorem cells_tail (h : Cfa.Good t) (j : Nat) : (cells rv kv t)[75 + j]? = [kv, .int .i64 t.size][j]? := by
  rw [cells, show 75 + j = (74 + j) + 1 from by omega, List.getElem?_cons_succ, List.getElem?_append_right (by rw [nums_length, h.now]; omega), nums_length, h.now,
    List.getElem?_append_right (by rw [nums_length, h.first]; omega), nums_length, h.first, show 74 + j - 37 - 37 = j from by omega]
theorem Tab.cell (h : Tab w base g t rv kv) (j : Nat) : w.cell? ⟨g, j, none⟩ = (cells rv kv t)[j]? := by
  rw [cell_of_row w g j _ _ _ h.blk, List.getElem?_toArray]
theorem Tab.free (h : Tab w base g t rv kv) (j : Nat) : w.frozen? ⟨g, j, none⟩ = false := blk_frozen h.blk j
theorem Tab.rowsC (h : Tab w base g t rv kv) : w.cell? ⟨g, 0, none⟩ = some rv := by rw [h.cell]; rfl
theorem Tab.now (h : Tab w base g t rv kv) (j : Nat) (hj : j < 37) : w.cell? ⟨g, 1 + j, none⟩ = some (.int .i64 (t.now.getD j 0)) := by rw [h.cell, cells_now h.good j hj]
theorem Tab.first (h : Tab w base g t rv kv) (j : Nat) (hj : j < 37) : w.cell? ⟨g, 38 + j, none⟩ = some (.int .i64 (t.first.getD j 0)) := by rw [h.cell, cells_first h.good j hj]
theorem Tab.keptC (h : Tab w base g t rv kv) : w.cell? ⟨g, 75, none⟩ = some kv := by rw [h.cell]; exact cells_tail h.good 0
theorem Tab.size (h : Tab w base g t rv kv) : w.cell? ⟨g, 76, none⟩ = some (.int .i64 t.size) := by rw [h.cell]; exact cells_tail h.good 1
/-- The world moves, but not in g, nor in old blocks. -/
theorem Tab.below (h : Tab w base g t rv kv) (hb : Below w.heap.size w w') : Tab w' base g t rv kv :=
  ⟨h.good, h.lo, blk_below h.blk hb, Kd.R_below h.rows hb, Kd.R_below h.kept hb⟩
/-- The table's block turns, its rows do not. -/
theorem Tab.turn (h : Tab w base g t rv kv) (hg : w.grownBy w' (some g)) (good : Cfa.Good t') (hb : w'.heap[g]? = some (.cells (cells rv kv t').toArray 79 (0, 0))) (hr : t'.rows = t.rows) (hk : t'.kept = t.kept) : Tab w' base g t' rv kv :=
  ⟨good, h.lo, hb, by rw [hr]; exact Kd.R_grown h.rows hg (fun k hk e => hk.1 (Option.some.inj e)), by rw [hk]; exact Kd.R_grown h.kept hg (fun k hk e => hk.1 (Option.some.inj e))⟩
/-! The cells of a table in which a number has turned. -/
theorem set_now (hb : w.heap[g]? = some (.cells (cells rv kv t).toArray 79 (0, 0))) (h : Cfa.Good t) (j : Nat) (hj : j < 37) (x : Int) :
    (w.setCell ⟨g, 1 + j, none⟩ (.int .i64 x)).heap[g]? = some (.cells (cells rv kv { t with now := t.now.set j x }).toArray 79 (0, 0)) := by
  refine blk_put hb _ _ ?_
  rw [List.setIfInBounds_toArray, cells, cells, Nat.add_comm, List.set_cons_succ, List.set_append_left _ _ (by rw [nums_length, h.now]; exact hj)]
  simp [nums, List.map_set]
theorem set_rows (hb : w.heap[g]? = some (.cells (cells rv kv t).toArray 79 (0, 0))) (v : Value) (rs : List Row) :
    (w.setCell ⟨g, 0, none⟩ v).heap[g]? = some (.cells (cells v kv { t with rows := rs }).toArray 79 (0, 0)) := by
  refine blk_put hb _ _ ?_
  rw [List.setIfInBounds_toArray]
  rfl
theorem set_kept (hb : w.heap[g]? = some (.cells (cells rv kv t).toArray 79 (0, 0))) (h : Cfa.Good t) (v : Value) (ks : List Row) :
    (w.setCell ⟨g, 75, none⟩ v).heap[g]? = some (.cells (cells rv v { t with kept := ks }).toArray 79 (0, 0)) := by
  refine blk_put hb _ _ ?_
  rw [List.setIfInBounds_toArray, cells, cells, show 75 = 74 + 1 from rfl, List.set_cons_succ, List.set_append_right _ _ (by rw [nums_length, h.now]; omega), nums_length, h.now,
    List.set_append_right _ _ (by rw [nums_length, h.first]; omega), nums_length, h.first]
  rfl
/-- The address of rule m of a row that begins at o. -/
theorem rule_at (g o m : Nat) (hm : m ≤ 16) (W : World) : (Instr.indexAt 51 (.pointer (some ⟨g, o, none⟩)) (.int .i64 (m : Int))).run Try.prog W = .ok (.pointer (some ⟨g, o + m * 2, none⟩)) W := by
  have h1 : Try.prog.arrayLen 51 = 17 := by kernel_rfl
  have h2 : Try.prog.elem 51 = 50 := by kernel_rfl
  have h3 : (sizeOf 50).run Try.prog W = .ok 2 W := by kernel_rfl
  rw [run_indexAt_array (P := Try.prog) W _ _ _ _ (by rw [h1, h2]; exact Try.underlying51), h1, if_pos (by omega), h2, h3]
  simp only [Result.andThen, Int.toNat_natCast, Addr.add_mid]
theorem build_row (l : List Int) (hl : l.length = 37) (W : World) : (Instr.buildSlice 44 1 #[(0, .agg (nums .i64 l).toArray)]).run Try.prog W = .ok (.slice (some ⟨W.heap.size, 0, none⟩) 1 1) (W.alloc (.cells (nums .i64 l).toArray 53)) := by
  obtain ⟨i0, hi, hzz⟩ := Option.map_eq_some_iff.1 info53
  simp only [Prod.mk.injEq] at hzz
  obtain ⟨hz0, hz1, hz2⟩ := hzz
  refine run_buildSlice (P := Try.prog) W _ 53 1 _ _ i0 _ Try.underlying44 hi hz0 (by rw [hz1]; decide) (by rw [hz1]; decide) ?_
  have hn : (nums .i64 l).length = 37 := by rw [nums_length, hl]
  simp only [Instr.fill, hz1, Nat.zero_mul, Value.cells, List.size_toArray, hn]
  rw [if_neg (by simp)]
  simp only [Option.some.injEq]
  exact fill_all _ _ (by simp [hn])
theorem load_row (u : World) (g o : Nat) (l : List Int) (hl : l.length = 37) (h : u.rangeAt g o (nums .i64 l)) : (Instr.loadAt 53 (.pointer (some ⟨g, o, none⟩))).run Try.prog u = .ok (.agg (nums .i64 l).toArray) u :=
  run_loadAt_mid (P := Try.prog) u g o 53 _ _ h Try.underlying53 rfl (by rw [nums_length, hl]; kernel_rfl)
theorem wp_build_row {o : Oper} {a : Act} {w : World} {K : Act → World → Prop} {Q : Exit → Act → World → Prop} (x : Operand) (ho : o.op = .buildSlice 44 1 #[(0, x)]) (l : List Int) (hl : l.length = 37) (hx : a.eval x = .agg (nums .i64 l).toArray)
    (h : K (a.put o.dst (.slice (some ⟨w.heap.size, 0, none⟩) 1 1)) (w.alloc (.cells (nums .i64 l).toArray 53))) : o.wp Try.prog a w K Q := by
  unfold Oper.wp execOp
  have hb := build_row l hl w
  simp only [ho, List.map_toArray, List.map_cons, List.map_nil, hx, Sem.run_bind, hb, Result.andThen_ok]
  exact h
theorem load_row_y {ops : Array Oper} {S : World → Prop} {op : Oper} {a : Act} (hw : Region.wanted op (yielded ops a.tmps) = true) (x : Operand) (ho : op.op = .load 53 x) (b o : Nat) (hx : a.eval x = .pointer (some ⟨b, o, none⟩)) (l : List Int) (hl : l.length = 37)
    (hS : ∀ w, S w → w.rangeAt b o (nums .i64 l)) : YieldsIf Try.prog ops S op (.agg (nums .i64 l).toArray) a :=
  yieldsIf_load_mid hw 53 x ho b o hx _ _ hS Try.underlying53 rfl (by rw [nums_length, hl]; kernel_rfl)
section
variable {w w1 W : World} {base g : Nat} {t : T} {rv kv v1 : Value}
theorem Tab.nowR (h : Tab w base g t rv kv) : w.rangeAt g 1 (nums .i64 t.now) := fun j v hv => by
  have hj : j < 37 := by
    have := (List.getElem?_eq_some_iff.1 hv).1
    rwa [nums_length, h.good.now] at this
  rw [h.now j hj, ← hv, nums_get (by rw [h.good.now]; exact hj)]
theorem Tab.kept_app (h : Tab w base g t rv kv) (hb : Below w.heap.size w W) (hg : W.grownBy w1 kv.ownBlock) (hat : v1.ownBlock = kv.ownBlock ∨ ∃ b, v1.ownBlock = some b ∧ W.heap.size ≤ b) {ks : List Row} (ho : Kd.R rowK 53 w1 base (fun k => k ≠ g ∧ some k ≠ rv.ownBlock) v1 ks)
    (good : Cfa.Good { t with kept := ks }) : Tab (w1.setCell ⟨g, 75, none⟩ v1) base g { t with kept := ks } rv v1 := by
  have h1 := h.below hb
  have hc := blk_grown h1.blk hg (fun e => (h1.kept.1 g e.symm).1 rfl)
  exact ⟨good, h.lo, set_kept hc h.good v1 ks, Kd.R_far (p := ⟨g, 75, none⟩) (R_beside (e' := 0) h1.rows hg hat) (fun k hk => hk.1) v1, Kd.R_far (p := ⟨g, 75, none⟩) ho (fun k hk => hk.1) v1⟩
theorem Tab.rows_app (h : Tab w base g t rv kv) (hb : Below w.heap.size w W) (hg : W.grownBy w1 rv.ownBlock) (hat : v1.ownBlock = rv.ownBlock ∨ ∃ b, v1.ownBlock = some b ∧ W.heap.size ≤ b) {rs : List Row} (ho : Kd.R rowK 53 w1 base (fun k => k ≠ g ∧ some k ≠ kv.ownBlock) v1 rs)
    (good : Cfa.Good { t with rows := rs }) : Tab (w1.setCell ⟨g, 0, none⟩ v1) base g { t with rows := rs } v1 kv := by
  have h1 := h.below hb
  have hc := blk_grown h1.blk hg (fun e => (h1.rows.1 g e.symm).1 rfl)
  exact ⟨good, h.lo, set_rows hc v1 rs, Kd.R_far (p := ⟨g, 0, none⟩) ho (fun k hk => hk.1) v1, Kd.R_far (p := ⟨g, 0, none⟩) (R_beside (e' := 0) h1.kept hg hat) (fun k hk => hk.1) v1⟩
end
end
theorem rowTy : RowTy 53 44 := ⟨info53, ⟨_, Try.underlying53, rfl⟩, Try.underlying44⟩
section
variable {w w' : World} {base g : Nat} {t t' : T} {rv kv : Value}
theorem set_nowAll (hb : w.heap[g]? = some (.cells (cells rv kv t).toArray 79 (0, 0))) (h : Cfa.Good t) (l : Row) (hl : l.length = 37) :
    (w.setCells g 1 (nums .i64 l)).heap[g]? = some (.cells (cells rv kv { t with now := l }).toArray 79 (0, 0)) := by
  rw [setCells_block _ hb (by rw [nums_length, hl, List.size_toArray, cells_len h]; omega), nums_length, hl]
  rw [cells, cells]
  simp only [List.take_succ_cons, List.take_zero, List.drop_succ_cons, List.cons_append, List.nil_append]
  rw [List.drop_left' (by rw [nums_length, h.now])]
theorem set_firstAll (hb : w.heap[g]? = some (.cells (cells rv kv t).toArray 79 (0, 0))) (h : Cfa.Good t) (l : Row) (hl : l.length = 37) :
    (w.setCells g 38 (nums .i64 l)).heap[g]? = some (.cells (cells rv kv { t with first := l }).toArray 79 (0, 0)) := by
  rw [setCells_block _ hb (by rw [nums_length, hl, List.size_toArray, cells_len h]; omega), nums_length, hl]
  rw [cells, cells]
  have h1 : (nums .i64 t.now).length = 37 := by rw [nums_length, h.now]
  have h2 : (nums .i64 t.first).length = 37 := by rw [nums_length, h.first]
  rw [show 38 = 37 + 1 from rfl, show 37 + 1 + 37 = 74 + 1 from rfl, List.take_succ_cons, List.drop_succ_cons, List.take_left' h1, ← List.append_assoc (nums .i64 t.now), List.drop_left' (by rw [List.length_append, h1, h2])]
  simp only [List.cons_append, List.append_assoc]
end
end Go.Proofs.Ytngddlihppomhaa.CfaR
