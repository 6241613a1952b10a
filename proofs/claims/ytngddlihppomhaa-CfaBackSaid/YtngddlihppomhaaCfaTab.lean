/- A table of frame rules in memory: one block of 78 cells and two rows of its own. -/
import Derived.Test.YtngddlihppomhaaCfa
import Derived.StillTailTactics
import Derived.Great.BuildSlice
namespace Go.Proofs.Ytngddlihppomhaa.Cfa
set_option linter.unusedVariables false
set_option linter.unusedSimpArgs false
open Go.RowKit Go.Proofs.Ytngddlihppomhaa.G Go.Proofs.YtngddlihppomhaaW.PrintWords Go.Proofs.YtngddlihppomhaaW.PrintLast Go.Proofs.YtngddlihppomhaaW.PrintMore

/-- The row of a variable that is just made. -/
def zrow : List Int := List.replicate 37 0
theorem zrow_len : zrow.length = 37 := by unfold zrow; simp
/-- The kind of a row. -/
def rowK : Kd Row := Kd.arr 37 (Kd.int .i64) (by decide)
theorem info35 : (Try.prog.info? 35).map (fun i => (i.zero, i.size, i.bytes)) = some (some (.agg (Array.replicate 37 (.int .i64 0))), 37, 296) := by kernel_rfl
def cells (rv kv : Value) (t : T) : List Value := rv :: (nums .i64 t.now ++ (nums .i64 t.first ++ [kv, .int .i64 t.size, .bool t.begun]))
/-- The table t lies in block g. -/
structure Tab (w : World) (base g : Nat) (t : T) (rv kv : Value) : Prop where
  good : Good t
  lo : base ≤ g
  blk : w.heap[g]? = some (.cells (cells rv kv t).toArray 73 (0, 0))
  rows : Kd.R rowK 35 w base (fun k => k ≠ g ∧ some k ≠ kv.ownBlock) rv t.rows
  kept : Kd.R rowK 35 w base (fun k => k ≠ g ∧ some k ≠ rv.ownBlock) kv t.kept
section
variable {w w' : World} {base g : Nat} {t t' : T} {rv kv rv' kv' : Value}
theorem cells_len (h : Good t) : (cells rv kv t).length = 78 := by
  simp [cells, nums_length, h.now, h.first]
theorem nums_get {l : List Int} {j : Nat} (hj : j < l.length) : (nums .i64 l)[j]? = some (.int .i64 (l.getD j 0)) := by
  simp [nums, List.getElem?_eq_getElem hj, List.getD_eq_getElem?_getD]
theorem cells_rows : (cells rv kv t)[0]? = some rv := rfl
theorem cells_now (h : Good t) (j : Nat) (hj : j < 37) : (cells rv kv t)[1 + j]? = some (.int .i64 (t.now.getD j 0)) := by
  rw [cells, Nat.add_comm, List.getElem?_cons_succ, List.getElem?_append_left (by rw [nums_length, h.now]; exact hj)]
  exact nums_get (by rw [h.now]; exact hj)
theorem cells_first (h : Good t) (j : Nat) (hj : j < 37) : (cells rv kv t)[38 + j]? = some (.int .i64 (t.first.getD j 0)) := by
  rw [cells, show 38 + j = (37 + j) + 1 from by omega, List.getElem?_cons_succ, List.getElem?_append_right (by rw [nums_length, h.now]; omega), nums_length, h.now, Nat.add_sub_cancel_left,
    List.getElem?_append_left (by rw [nums_length, h.first]; exact hj)]
  exact nums_get (by rw [h.first]; exact hj)
theorem cells_tail (h : Good t) (j : Nat) : (cells rv kv t)[75 + j]? = [kv, .int .i64 t.size, .bool t.begun][j]? := by
  rw [cells, show 75 + j = (74 + j) + 1 from by omega, List.getElem?_cons_succ, List.getElem?_append_right (by rw [nums_length, h.now]; omega), nums_length, h.now,
    List.getElem?_append_right (by rw [nums_length, h.first]; omega), nums_length, h.first, show 74 + j - 37 - 37 = j from by omega]
theorem Tab.cell (h : Tab w base g t rv kv) (j : Nat) : w.cell? ⟨g, j, none⟩ = (cells rv kv t)[j]? := by
  rw [cell_of_row w g j _ _ _ h.blk, List.getElem?_toArray]
theorem Tab.free (h : Tab w base g t rv kv) (j : Nat) : w.frozen? ⟨g, j, none⟩ = false := blk_frozen h.blk j
theorem Tab.rowsC (h : Tab w base g t rv kv) : w.cell? ⟨g, 0, none⟩ = some rv := by rw [h.cell]; rfl
theorem Tab.now (h : Tab w base g t rv kv) (j : Nat) (hj : j < 37) : w.cell? ⟨g, 1 + j, none⟩ = some (.int .i64 (t.now.getD j 0)) := by rw [h.cell, cells_now h.good j hj]
theorem Tab.first (h : Tab w base g t rv kv) (j : Nat) (hj : j < 37) : w.cell? ⟨g, 38 + j, none⟩ = some (.int .i64 (t.first.getD j 0)) := by rw [h.cell, cells_first h.good j hj]
theorem Tab.keptC (h : Tab w base g t rv kv) : w.cell? ⟨g, 75, none⟩ = some kv := by rw [h.cell]; exact cells_tail h.good 0
theorem Tab.size (h : Tab w base g t rv kv) : w.cell? ⟨g, 76, none⟩ = some (.int .i64 t.size) := by rw [h.cell]; exact cells_tail h.good 1
theorem Tab.begun (h : Tab w base g t rv kv) : w.cell? ⟨g, 77, none⟩ = some (.bool t.begun) := by rw [h.cell]; exact cells_tail h.good 2
/-- The world moves, but not in g, nor in old blocks. -/
theorem Tab.below (h : Tab w base g t rv kv) (hb : Below w.heap.size w w') : Tab w' base g t rv kv :=
  ⟨h.good, h.lo, blk_below h.blk hb, Kd.R_below h.rows hb, Kd.R_below h.kept hb⟩
/-- The table's block turns, its rows do not. -/
theorem Tab.turn (h : Tab w base g t rv kv) (hg : w.grownBy w' (some g)) (good : Good t') (hb : w'.heap[g]? = some (.cells (cells rv kv t').toArray 73 (0, 0))) (hr : t'.rows = t.rows) (hk : t'.kept = t.kept) : Tab w' base g t' rv kv :=
  ⟨good, h.lo, hb, by rw [hr]; exact Kd.R_grown h.rows hg (fun k hk e => hk.1 (Option.some.inj e)), by rw [hk]; exact Kd.R_grown h.kept hg (fun k hk e => hk.1 (Option.some.inj e))⟩
theorem grown_set (w : World) (g j : Nat) (v : Value) : w.grownBy (w.setCell ⟨g, j, none⟩ v) (some g) :=
  ⟨rfl, rfl, rfl, by simp [World.setCell], fun k _ hk => Below.heap_setCell w ⟨g, j, none⟩ v k (fun e => hk (by rw [e]))⟩
theorem grown_drew {row : Option Nat} (h : w.grownBy w' row) : w.grownBy w'.drew row := ⟨h.os, h.tape, h.output, h.size, h.block⟩
theorem grown_alloc {row : Option Nat} (h : w.grownBy w' row) (o : Obj) : w.grownBy (w'.alloc o) row := World.grownBy.trans h (World.grownBy_alloc _ _ _)
theorem grown_set' (h : w.grownBy w' (some g)) (j : Nat) (v : Value) : w.grownBy (w'.setCell ⟨g, j, none⟩ v) (some g) := World.grownBy.trans h (grown_set _ _ _ _)
theorem grown_below' {row : Option Nat} (h : w.grownBy w' row) {w2 : World} (hb : Below w'.heap.size w' w2) : w.grownBy w2 row := World.grownBy.trans h (grown_of_below hb row)
theorem below_grown (hg : w.grownBy w' (some g)) (h0 : base ≤ w.heap.size) (h1 : base ≤ g) : Below base w w' := (Below.refl base w).grown hg h0 (fun k hk => by cases hk; exact h1)
/-! The cells of a table in which a number has turned. -/
theorem set_now (hb : w.heap[g]? = some (.cells (cells rv kv t).toArray 73 (0, 0))) (h : Good t) (j : Nat) (hj : j < 37) (x : Int) :
    (w.setCell ⟨g, 1 + j, none⟩ (.int .i64 x)).heap[g]? = some (.cells (cells rv kv { t with now := t.now.set j x }).toArray 73 (0, 0)) := by
  refine blk_put hb _ _ ?_
  rw [List.setIfInBounds_toArray, cells, cells, Nat.add_comm, List.set_cons_succ, List.set_append_left _ _ (by rw [nums_length, h.now]; exact hj)]
  simp [nums, List.map_set]
theorem set_rows (hb : w.heap[g]? = some (.cells (cells rv kv t).toArray 73 (0, 0))) (v : Value) (rs : List Row) :
    (w.setCell ⟨g, 0, none⟩ v).heap[g]? = some (.cells (cells v kv { t with rows := rs }).toArray 73 (0, 0)) := by
  refine blk_put hb _ _ ?_
  rw [List.setIfInBounds_toArray]
  rfl
theorem set_kept (hb : w.heap[g]? = some (.cells (cells rv kv t).toArray 73 (0, 0))) (h : Good t) (v : Value) (ks : List Row) :
    (w.setCell ⟨g, 75, none⟩ v).heap[g]? = some (.cells (cells rv v { t with kept := ks }).toArray 73 (0, 0)) := by
  refine blk_put hb _ _ ?_
  rw [List.setIfInBounds_toArray, cells, cells, show 75 = 74 + 1 from rfl, List.set_cons_succ, List.set_append_right _ _ (by rw [nums_length, h.now]; omega), nums_length, h.now,
    List.set_append_right _ _ (by rw [nums_length, h.first]; omega), nums_length, h.first]
  rfl
theorem set_begun (hb : w.heap[g]? = some (.cells (cells rv kv t).toArray 73 (0, 0))) (h : Good t) (b : Bool) :
    (w.setCell ⟨g, 77, none⟩ (.bool b)).heap[g]? = some (.cells (cells rv kv { t with begun := b }).toArray 73 (0, 0)) := by
  refine blk_put hb _ _ ?_
  rw [List.setIfInBounds_toArray, cells, cells, show 77 = 76 + 1 from rfl, List.set_cons_succ, List.set_append_right _ _ (by rw [nums_length, h.now]; omega), nums_length, h.now,
    List.set_append_right _ _ (by rw [nums_length, h.first]; omega), nums_length, h.first]
  rfl
/-- The address of rule m of a row that begins at o. -/
theorem rule_at (g o m : Nat) (hm : m ≤ 16) (W : World) : (Instr.indexAt 33 (.pointer (some ⟨g, o, none⟩)) (.int .i64 (m : Int))).run Try.prog W = .ok (.pointer (some ⟨g, o + m * 2, none⟩)) W := by
  have h1 : Try.prog.arrayLen 33 = 17 := by kernel_rfl
  have h2 : Try.prog.elem 33 = 32 := by kernel_rfl
  have h3 : (sizeOf 32).run Try.prog W = .ok 2 W := by kernel_rfl
  rw [run_indexAt_array (P := Try.prog) W _ _ _ _ (by rw [h1, h2]; exact Try.underlying33), h1, if_pos (by omega), h2, h3]
  simp only [Result.andThen, Int.toNat_natCast, Addr.add_mid]
/-- A region that draws its order: all but the tail only reads. -/
theorem still_tail {P : Program} {id : Nat} {Q : Exit → Act → World → Prop} {a : Act} {w : World} {l : List Oper} (n : Nat) (hm : P.follows .mixedOrders = true) (hB : Region.lexTailB .any l.toArray n = true)
    (h : wpStill P l.toArray w.drew (fun a' => wpList P l.toArray Q (l.drop n) a' w.drew) (l.take n) a) : (Code.region id l.toArray true).wp P Q a w := wp_region_still_tail n hm hB h
/-! Rows as values. -/
theorem fill_list (vs : List Value) : ∀ (k : Nat) (cs : Array Value), cs.size = k + vs.length → ((vs.zipIdx k).foldl (fun cs (x : Value × Nat) => cs.setIfInBounds (0 + x.2) x.1) cs).toList = cs.toList.take k ++ vs := by
  induction vs with
  | nil =>
    intro k cs h
    simp only [List.zipIdx_nil, List.foldl_nil, List.append_nil]
    rw [List.take_of_length_le (by rw [List.length_nil] at h; rw [Array.length_toList]; omega)]
  | cons v vs ih =>
    intro k cs h
    rw [List.length_cons] at h
    rw [List.zipIdx_cons, List.foldl_cons, ih (k + 1) _ (by simp; omega)]
    simp only [Nat.zero_add, Array.toList_setIfInBounds]
    rw [List.take_succ_eq_append_getElem (by simp; omega), List.take_set, List.set_eq_of_length_le (by simp; omega)]
    simp
theorem fill_all (vs : List Value) (cs : Array Value) (h : cs.size = vs.length) : vs.toArray.zipIdx.foldl (fun cs (x : Value × Nat) => cs.setIfInBounds (0 + x.2) x.1) cs = vs.toArray := by
  have h1 := fill_list vs 0 cs (by omega)
  apply Array.ext'
  rw [← Array.foldl_toList, Array.toList_zipIdx]
  simpa using h1
theorem build_row (l : List Int) (hl : l.length = 37) (W : World) : (Instr.buildSlice 23 1 #[(0, .agg (nums .i64 l).toArray)]).run Try.prog W = .ok (.slice (some ⟨W.heap.size, 0, none⟩) 1 1) (W.alloc (.cells (nums .i64 l).toArray 35)) := by
  obtain ⟨i0, hi, hzz⟩ := Option.map_eq_some_iff.1 info35
  simp only [Prod.mk.injEq] at hzz
  obtain ⟨hz0, hz1, hz2⟩ := hzz
  refine run_buildSlice (P := Try.prog) W _ 35 1 _ _ i0 _ Try.underlying23 hi hz0 (by rw [hz1]; decide) (by rw [hz1]; decide) ?_
  have hn : (nums .i64 l).length = 37 := by rw [nums_length, hl]
  simp only [Instr.fill, hz1, Nat.zero_mul, Value.cells, List.size_toArray, hn]
  rw [if_neg (by simp)]
  simp only [Option.some.injEq]
  exact fill_all _ _ (by simp [hn])
theorem load_row (u : World) (g o : Nat) (l : List Int) (hl : l.length = 37) (h : u.rangeAt g o (nums .i64 l)) : (Instr.loadAt 35 (.pointer (some ⟨g, o, none⟩))).run Try.prog u = .ok (.agg (nums .i64 l).toArray) u :=
  run_loadAt_mid (P := Try.prog) u g o 35 _ _ h Try.underlying35 rfl (by rw [nums_length, hl]; kernel_rfl)
theorem wp_build_row {o : Oper} {a : Act} {w : World} {K : Act → World → Prop} {Q : Exit → Act → World → Prop} (x : Operand) (ho : o.op = .buildSlice 23 1 #[(0, x)]) (l : List Int) (hl : l.length = 37) (hx : a.eval x = .agg (nums .i64 l).toArray)
    (h : K (a.put o.dst (.slice (some ⟨w.heap.size, 0, none⟩) 1 1)) (w.alloc (.cells (nums .i64 l).toArray 35))) : o.wp Try.prog a w K Q := by
  unfold Oper.wp execOp
  have hb := build_row l hl w
  simp only [ho, List.map_toArray, List.map_cons, List.map_nil, hx, Sem.run_bind, hb, Result.andThen_ok]
  exact h
theorem load_row_y {ops : Array Oper} {S : World → Prop} {op : Oper} {a : Act} (hw : Region.wanted op (yielded ops a.tmps) = true) (x : Operand) (ho : op.op = .load 35 x) (b o : Nat) (hx : a.eval x = .pointer (some ⟨b, o, none⟩)) (l : List Int) (hl : l.length = 37)
    (hS : ∀ w, S w → w.rangeAt b o (nums .i64 l)) : YieldsIf Try.prog ops S op (.agg (nums .i64 l).toArray) a :=
  yieldsIf_load_mid hw 35 x ho b o hx _ _ hS Try.underlying35 rfl (by rw [nums_length, hl]; kernel_rfl)
theorem row_M (w : World) (base : Nat) (ok : Nat → Prop) (l : List Int) (hl : l.length = 37) : rowK.M w base ok l (nums .i64 l) := Kd.arr_of_cells (n := 37) (enc := Value.int .i64) (h1 := fun _ => rfl) (hs := by decide) hl
theorem row_K {w : World} {l : List Int} {cs : List Value} (h : rowK.K w l cs) : l.length = 37 ∧ cs = nums .i64 l := Kd.arr_cells (n := 37) (enc := Value.int .i64) (h1 := fun _ => rfl) (hs := by decide) h
section
variable {w w1 W : World} {base g : Nat} {t : T} {rv kv v1 : Value}
theorem Tab.nowR (h : Tab w base g t rv kv) : w.rangeAt g 1 (nums .i64 t.now) := fun j v hv => by
  have hj : j < 37 := by
    have := (List.getElem?_eq_some_iff.1 hv).1
    rwa [nums_length, h.good.now] at this
  rw [h.now j hj, ← hv, nums_get (by rw [h.good.now]; exact hj)]
/-- Another row than the one that was written lives on, whatever block the written one has now. -/
theorem R_beside {e e' base : Nat} {rv kv v1 : Value} {xs : List Row} (h : Kd.R rowK e W base (fun k => k ≠ g ∧ some k ≠ kv.ownBlock) rv xs) (hg : W.grownBy w1 kv.ownBlock) (hat : v1.ownBlock = kv.ownBlock ∨ ∃ b, v1.ownBlock = some b ∧ W.heap.size ≤ b) :
    Kd.R rowK e w1 base (fun k => k ≠ g ∧ some k ≠ v1.ownBlock) rv xs := by
  have h1 := Kd.R_bound h
  refine Kd.R_mono (Kd.R_grown h1 hg (fun k hk => hk.1.2)) (fun k hk => ⟨hk.1.1, ?_⟩)
  rcases hat with hat | ⟨b, hb, hle⟩
  · rw [hat]; exact hk.1.2
  · rw [hb]
    intro e
    injection e with e
    have := hk.2.2.1
    omega
theorem Tab.kept_app (h : Tab w base g t rv kv) (hb : Below w.heap.size w W) (hg : W.grownBy w1 kv.ownBlock) (hat : v1.ownBlock = kv.ownBlock ∨ ∃ b, v1.ownBlock = some b ∧ W.heap.size ≤ b) {ks : List Row} (ho : Kd.R rowK 35 w1 base (fun k => k ≠ g ∧ some k ≠ rv.ownBlock) v1 ks)
    (good : Good { t with kept := ks }) : Tab (w1.setCell ⟨g, 75, none⟩ v1) base g { t with kept := ks } rv v1 := by
  have h1 := h.below hb
  have hc := blk_grown h1.blk hg (fun e => (h1.kept.1 g e.symm).1 rfl)
  exact ⟨good, h.lo, set_kept hc h.good v1 ks, Kd.R_far (p := ⟨g, 75, none⟩) (R_beside (e' := 0) h1.rows hg hat) (fun k hk => hk.1) v1, Kd.R_far (p := ⟨g, 75, none⟩) ho (fun k hk => hk.1) v1⟩
theorem Tab.rows_app (h : Tab w base g t rv kv) (hb : Below w.heap.size w W) (hg : W.grownBy w1 rv.ownBlock) (hat : v1.ownBlock = rv.ownBlock ∨ ∃ b, v1.ownBlock = some b ∧ W.heap.size ≤ b) {rs : List Row} (ho : Kd.R rowK 35 w1 base (fun k => k ≠ g ∧ some k ≠ kv.ownBlock) v1 rs)
    (good : Good { t with rows := rs }) : Tab (w1.setCell ⟨g, 0, none⟩ v1) base g { t with rows := rs } v1 kv := by
  have h1 := h.below hb
  have hc := blk_grown h1.blk hg (fun e => (h1.rows.1 g e.symm).1 rfl)
  exact ⟨good, h.lo, set_rows hc v1 rs, Kd.R_far (p := ⟨g, 0, none⟩) ho (fun k hk => hk.1) v1, Kd.R_far (p := ⟨g, 0, none⟩) (R_beside (e' := 0) h1.kept hg hat) (fun k hk => hk.1) v1⟩
end
end
/-! Rows by value: read, boxed, stored. -/
theorem setCells_block {w : World} {g o : Nat} {e : TypeId} {cur : Array Value} (vs : List Value) (h : w.heap[g]? = some (.cells cur e (0, 0))) (hl : o + vs.length ≤ cur.size) :
    (w.setCells g o vs).heap[g]? = some (.cells (cur.toList.take o ++ vs ++ cur.toList.drop (o + vs.length)).toArray e (0, 0)) := by
  obtain ⟨cur', h1, h2, h3⟩ := setCells_row vs o w cur h hl
  rw [h1, ← h3]
/-- tr is a type of 37 whole numbers, ts a slice of it. -/
structure RowTy (tr ts : TypeId) : Prop where
  info : (Try.prog.info? tr).map (fun i => (i.zero, i.size, i.bytes)) = some (some (.agg (Array.replicate 37 (.int .i64 0))), 37, 296)
  under : ∃ d, Try.prog.underlying tr = some d ∧ d.isRow = true
  slice : Try.prog.underlying ts = some (.slice tr)
theorem rowTy : RowTy 35 23 := ⟨info35, ⟨_, Try.underlying35, rfl⟩, Try.underlying23⟩
section
variable {tr ts : TypeId} (T : RowTy tr ts) {ops : Array Oper} {rest : List Oper} {op : Oper} {a : Act} {w : World} {Q : Exit → Act → World → Prop} {l : List Int}
include T
theorem RowTy.sz (hl : l.length = 37) : (Try.prog.info? tr).map (·.size) = some (nums .i64 l).length := by
  obtain ⟨i0, hi, hzz⟩ := Option.map_eq_some_iff.1 T.info
  simp only [Prod.mk.injEq] at hzz
  rw [hi, Option.map_some, hzz.2.1, nums_length, hl]
theorem load_rowW (hgd : op.guard = none) (x : Operand) (ho : op.op = .load tr x) (b o : Nat) (hx : a.eval x = .pointer (some ⟨b, o, none⟩)) (l : List Int) (hl : l.length = 37) (hc : w.rangeAt b o (nums .i64 l))
    (h : wpList Try.prog ops Q rest (a.put op.dst (.agg (nums .i64 l).toArray)) w) : wpList Try.prog ops Q (op :: rest) a w := by
  obtain ⟨d, hd, hr⟩ := T.under
  exact wpList_load_mid hgd tr x ho b o hx _ d hc hd hr (T.sz hl) h
theorem load_rowS (hw : Region.wanted op (yielded ops a.tmps) = true) (x : Operand) (ho : op.op = .load tr x) (b o : Nat) (hx : a.eval x = .pointer (some ⟨b, o, none⟩)) (l : List Int) (hl : l.length = 37) (hc : w.rangeAt b o (nums .i64 l))
    {K : Act → Prop} (h : wpStill Try.prog ops w K rest (a.put op.dst (.agg (nums .i64 l).toArray))) : wpStill Try.prog ops w K (op :: rest) a := by
  obtain ⟨d, hd, hr⟩ := T.under
  refine wpStill_step (fun K' hK => ?_)
  rw [if_pos hw]
  unfold Oper.still execOp
  simp only [ho, hx, Instr.loadAt, Instr.sureAddr, Sem.run_bind, Sem.run_pure, Result.andThen_ok, run_loadVar_mid w b o tr _ d hc hd hr (T.sz hl)]
  rw [Oper.stillUpon_value]
  exact hK _ h
theorem store_rowW (hgd : op.guard = none) (x y : Operand) (ho : op.op = .store tr x y) (b o : Nat) (l : List Int) (hl : l.length = 37) (hx : a.eval x = .pointer (some ⟨b, o, none⟩)) (hy : a.eval y = .agg (nums .i64 l).toArray) (ht : w.there b o 37)
    (h : wpList Try.prog ops Q rest (a.put op.dst undef) (w.setCells b o (nums .i64 l))) : wpList Try.prog ops Q (op :: rest) a w := by
  have hn : (nums .i64 l).toArray.size = 37 := by rw [List.size_toArray, nums_length, hl]
  refine wpList_store_mid hgd tr x y ho b o _ hx hy (by rw [hn]; exact ht) (by rw [hn]; have := T.sz hl; rwa [nums_length, hl] at this) (all_oneCell_toArray (fun v hv => ?_)) (by simpa using h)
  obtain ⟨n, _, rfl⟩ := List.mem_map.1 hv
  rfl
theorem alloc_rowK {K : Act → World → Prop} (ho : op.op = .alloc tr) (h : K (a.put op.dst (.pointer (some ⟨w.heap.size, 0, none⟩))) (w.alloc (.cells (nums .i64 zrow).toArray tr))) : op.wp Try.prog a w K Q := by
  obtain ⟨i0, hi, hzz⟩ := Option.map_eq_some_iff.1 T.info
  simp only [Prod.mk.injEq] at hzz
  obtain ⟨hz0, hz1, hz2⟩ := hzz
  have hz : (zeroValue tr).run Try.prog w = .ok (.agg (nums .i64 zrow).toArray) w := by
    have hZ : Array.replicate 37 (Value.int .i64 0) = (nums .i64 zrow).toArray := by
      rw [zrow, nums, List.map_replicate, List.toArray_replicate]
    rw [hZ] at hz0
    generalize (nums .i64 zrow).toArray = Z at *
    simp [zeroValue, typeInfo, hi, hz0]
  generalize (nums .i64 zrow).toArray = Z at *
  have hr : (execOp a.eval op).run Try.prog w = .ok (.value (.pointer (some ⟨w.heap.size, 0, none⟩))) (w.alloc (.cells Z tr)) := by
    unfold execOp
    simp only [ho, Instr.alloc, Sem.run_bind, hz, Result.andThen_ok]
    simp [newVar, newRow, Value.cells]
  unfold Oper.wp
  rw [hr]
  exact h
theorem alloc_rowW (hgd : op.guard = none) (ho : op.op = .alloc tr) (h : wpList Try.prog ops Q rest (a.put op.dst (.pointer (some ⟨w.heap.size, 0, none⟩))) (w.alloc (.cells (nums .i64 zrow).toArray tr))) : wpList Try.prog ops Q (op :: rest) a w :=
  wpList_plain hgd fun _ hK => alloc_rowK T ho (hK _ _ h)
theorem store_rowK {K : Act → World → Prop} (x y : Operand) (ho : op.op = .store tr x y) (b o : Nat) (l : List Int) (hl : l.length = 37) (hx : a.eval x = .pointer (some ⟨b, o, none⟩)) (hy : a.eval y = .agg (nums .i64 l).toArray) (ht : w.there b o 37)
    (h : K (a.put op.dst undef) (w.setCells b o (nums .i64 l))) : op.wp Try.prog a w K Q := by
  have hn : (nums .i64 l).toArray.size = 37 := by rw [List.size_toArray, nums_length, hl]
  refine wp_store_mid tr x y ho b o _ hx hy (by rw [hn]; exact ht) (by rw [hn]; have := T.sz hl; rwa [nums_length, hl] at this) (all_oneCell_toArray (fun v hv => ?_)) (by simpa using h)
  obtain ⟨n, _, rfl⟩ := List.mem_map.1 hv
  rfl
end
/-- A row's box: what was stored into the variable that was just made. -/
theorem box_new {tr : TypeId} {w : World} {l : List Int} {g : Nat} (hg : g = w.heap.size) (hl : l.length = 37) : ((w.alloc (.cells (nums .i64 zrow).toArray tr)).setCells g 0 (nums .i64 l)).heap[g]? = some (.cells (nums .i64 l).toArray tr (0, 0)) ∧
    Below w.heap.size w ((w.alloc (.cells (nums .i64 zrow).toArray tr)).setCells g 0 (nums .i64 l)) := by
  subst hg
  have h0 := blk_new w (.cells (nums .i64 zrow).toArray tr)
  have hn : (nums .i64 zrow).length = 37 := by rw [nums_length, zrow_len]
  have hn2 : (nums .i64 l).length = 37 := by rw [nums_length, hl]
  refine ⟨?_, ?_⟩
  · rw [setCells_block (nums .i64 l) h0 (by rw [hn2, List.size_toArray, hn]; decide)]
    rw [List.take_zero, List.nil_append, hn2, List.drop_of_length_le (by rw [hn]; decide), List.append_nil]
  · obtain ⟨h1, h2, h3, h4⟩ := setCells_same w.heap.size (nums .i64 l) 0 (w.alloc (.cells (nums .i64 zrow).toArray tr))
    have hb := below_alloc (Below.refl w.heap.size w) (.cells (nums .i64 zrow).toArray tr)
    exact ⟨h1.trans hb.os, h2.trans hb.tape, h3.trans hb.output, by rw [h4]; exact hb.size, fun k hk => (setCells_far _ 0 k (by omega)).trans (hb.block k hk)⟩
theorem grown_setCells (w : World) (g o : Nat) (vs : List Value) : w.grownBy (w.setCells g o vs) (some g) := by
  obtain ⟨h1, h2, h3, h4⟩ := setCells_same g vs o w
  exact ⟨h1, h2, h3, by rw [h4]; exact Nat.le_refl _, fun k _ hk => setCells_far vs o k (fun e => hk (by rw [e]))⟩
section
variable {w w' : World} {base g : Nat} {t t' : T} {rv kv : Value}
theorem set_nowAll (hb : w.heap[g]? = some (.cells (cells rv kv t).toArray 73 (0, 0))) (h : Good t) (l : Row) (hl : l.length = 37) :
    (w.setCells g 1 (nums .i64 l)).heap[g]? = some (.cells (cells rv kv { t with now := l }).toArray 73 (0, 0)) := by
  rw [setCells_block _ hb (by rw [nums_length, hl, List.size_toArray, cells_len h]; omega), nums_length, hl]
  rw [cells, cells]
  simp only [List.take_succ_cons, List.take_zero, List.drop_succ_cons, List.cons_append, List.nil_append]
  rw [List.drop_left' (by rw [nums_length, h.now])]
theorem set_firstAll (hb : w.heap[g]? = some (.cells (cells rv kv t).toArray 73 (0, 0))) (h : Good t) (l : Row) (hl : l.length = 37) :
    (w.setCells g 38 (nums .i64 l)).heap[g]? = some (.cells (cells rv kv { t with first := l }).toArray 73 (0, 0)) := by
  rw [setCells_block _ hb (by rw [nums_length, hl, List.size_toArray, cells_len h]; omega), nums_length, hl]
  rw [cells, cells]
  have h1 : (nums .i64 t.now).length = 37 := by rw [nums_length, h.now]
  have h2 : (nums .i64 t.first).length = 37 := by rw [nums_length, h.first]
  rw [show 38 = 37 + 1 from rfl, show 37 + 1 + 37 = 74 + 1 from rfl, List.take_succ_cons, List.drop_succ_cons, List.take_left' h1, ← List.append_assoc (nums .i64 t.now), List.drop_left' (by rw [List.length_append, h1, h2])]
  simp only [List.cons_append, List.append_assoc]
theorem there_of_blk {cs : Array Value} {e : TypeId} {b o n : Nat} (hb : w.heap[b]? = some (.cells cs e (0, 0))) (hl : o + n ≤ cs.size) : w.there b o n := fun j hj => by
  refine ⟨?_, blk_frozen hb _⟩
  rw [blk_cell hb, Array.getElem?_eq_getElem (by omega)]
  rfl
theorem range_of_blk {cs : List Value} {e : TypeId} {b : Nat} (hb : w.heap[b]? = some (.cells cs.toArray e (0, 0))) : w.rangeAt b 0 cs := fun j v hv => by
  rw [blk_cell hb, List.getElem?_toArray, Nat.zero_add]
  exact hv
end
end Go.Proofs.Ytngddlihppomhaa.Cfa
