/- cfa.Find: the row of a place. -/
import Derived.Test.YtngddlihppomhaaCfaRows
namespace Go.Proofs.Ytngddlihppomhaa.Cfa
set_option linter.unusedVariables false
set_option linter.unusedSimpArgs false
open Go.RowKit Go.Proofs.Ytngddlihppomhaa.G Go.Proofs.YtngddlihppomhaaW.PrintWords Go.Proofs.YtngddlihppomhaaW.PrintLast Go.Proofs.YtngddlihppomhaaW.PrintMore

theorem row_ix {tr ts : TypeId} (T : RowTy tr ts) (g n len c : Nat) (h : n < len) (W : World) : (Instr.indexAt ts (.slice (some ⟨g, 0, none⟩) len c) (.int .i64 (n : Int))).run Try.prog W = .ok (.pointer (some ⟨g, n * 37, none⟩)) W := by
  have h2 : Try.prog.elem ts = tr := by simp [Program.elem, T.slice]
  obtain ⟨i0, hi, hzz⟩ := Option.map_eq_some_iff.1 T.info
  simp only [Prod.mk.injEq] at hzz
  have h3 : (sizeOf tr).run Try.prog W = .ok 37 W := by simp [sizeOf, typeInfo, hi, hzz.2.1]
  rw [run_indexAt_slice (P := Try.prog) W _ _ _ _ _ _ (by rw [h2]; exact T.slice), if_pos (by omega), h2, h3]
  simp only [Result.andThen, Int.toNat_natCast, Addr.add_mid, Nat.zero_add]
/-- The row of a place, and whether there is one. -/
def found (rows : List Row) (at_ : Int) : Row × Bool := match findIn at_ rows none with | none => (zrow, false) | some r => (r, true)
theorem rd_row {w : World} {e base : Nat} {ok : Nat → Prop} {g n c : Nat} {rows : List Row} (h : Kd.R rowK e w base ok (.slice (some ⟨g, 0, none⟩) n c) rows) (i : Nat) (hi : i < n) : ∃ l, rows[i]? = some l ∧ l.length = 37 ∧ w.rangeAt g (i * 37) (nums .i64 l) := by
  obtain ⟨cs, hcl, hM, hcc, _⟩ := Kd.R_elem h ([] : Row) (i : Int) (by omega) (by omega)
  have hn := (Kd.R_reads' h).1
  obtain ⟨hl, rfl⟩ := row_K (rowK.K_of_M hM)
  rw [Int.toNat_natCast] at hl hcc
  have e : rows[i]? = some (rows.getD i []) := by rw [List.getD_eq_getElem?_getD, List.getElem?_eq_getElem (by omega)]; rfl
  exact ⟨_, e, hl, fun j v hv => hcc j v hv⟩
theorem set_row {w : World} {g : Nat} {e : TypeId} {l0 l : Row} (h : w.heap[g]? = some (.cells (nums .i64 l0).toArray e (0, 0))) (h0 : l0.length = 37) (hl : l.length = 37) : (w.setCells g 0 (nums .i64 l)).heap[g]? = some (.cells (nums .i64 l).toArray e (0, 0)) := by
  have hn : (nums .i64 l0).length = 37 := by rw [nums_length, h0]
  have hn2 : (nums .i64 l).length = 37 := by rw [nums_length, hl]
  rw [setCells_block (nums .i64 l) h (by rw [hn2, List.size_toArray, hn]; decide), List.take_zero, List.nil_append, hn2, List.drop_of_length_le (by rw [hn]; decide), List.append_nil]
theorem there_row {w : World} {g : Nat} {e : TypeId} {l0 : Row} (h : w.heap[g]? = some (.cells (nums .i64 l0).toArray e (0, 0))) (h0 : l0.length = 37) : w.there g 0 37 :=
  there_of_blk h (by rw [List.size_toArray, nums_length, h0]; decide)
theorem found_of {rows : List Row} {at_ : Int} {st : Option Row} (h : findIn at_ rows none = st) : found rows at_ = (st.getD zrow, st.isSome) := by
  unfold found
  rw [h]
  cases st <;> rfl
set_option maxRecDepth 100000 in
theorem find_calls (v : Value) (rows : List Row) (at_ : Int) (base : Nat) (ok : Nat → Prop) (w : World) (h : Kd.R rowK 35 w base ok v rows) (hlen : rows.length ≤ 100000) :
    Calls Try.prog 14 #[v, .int .i64 at_] w fun e w' => e = .returned (.tuple #[.agg (nums .i64 (found rows at_).1).toArray, .bool (found rows at_).2]) ∧ Below w.heap.size w w' := by
  obtain ⟨A, c, rfl⟩ := Kd.R_slice h
  have hbase := Kd.R_lt h
  have H := Aside0.mk h
  obtain ⟨F, hF⟩ : ∃ F, found rows at_ = F := ⟨_, rfl⟩
  rw [hF]
  have HF := Aside0.mk hF
  clear h hF
  have HB := Aside0.mk (below_alloc (below_alloc (Below.refl w.heap.size w) (.cells (nums .i64 zrow).toArray 35)) (.cells (nums .i64 zrow).toArray 35))
  have HX := Aside0.mk (blk_alloc (blk_new w (.cells (nums .i64 zrow).toArray 35)) (.cells (nums .i64 zrow).toArray 35))
  have HY := Aside0.mk (blk_new (w.alloc (.cells (nums .i64 zrow).toArray 35)) (.cells (nums .i64 zrow).toArray 35))
  have hsz : (w.alloc (.cells (nums .i64 zrow).toArray 35)).heap.size = w.heap.size + 1 := by simp
  rw [hsz] at HY
  clear hsz
  go_enter Try.func14, Try.ntmps14
  go_wp2_with (first
    | (refine alloc_rowW rowTy rfl rfl ?_))
  generalize ((w.alloc (Obj.cells (nums .i64 zrow).toArray 35)).alloc (Obj.cells (nums .i64 zrow).toArray 35)) = w1 at *
  go_loopg [7, 12] rows.length (fun kq v7 i w' => ∃ (n : Nat) (st : Option Row) (out : Row), n + kq = rows.length ∧ i = .int .i64 (n : Int) ∧ v7 = .bool st.isSome ∧ Aside0 (findIn at_ rows none = findIn at_ (rows.drop n) st) ∧ Aside0 (out = st.getD zrow ∧ out.length = 37) ∧ Aside0 (w'.heap[w.heap.size + 1]? = some (.cells (nums .i64 out).toArray 35 (0, 0))) ∧ Aside0 (w'.heap[w.heap.size]? = some (.cells (nums .i64 zrow).toArray 35 (0, 0))) ∧ Aside0 (Below w.heap.size w w'))
  case atStart => exact ⟨0, none, zrow, by omega, rfl, rfl, ⟨rfl⟩, ⟨rfl, zrow_len⟩, HY, HX, HB⟩
  case round =>
    clear HY HX HB
    obtain ⟨n, st, out, hn, rfl, rfl, HD, HO, HY, HX, HB⟩ := hrel
    cases gk with
    | zero =>
      have hltb : decide ((n : Int) < (rows.length : Int)) = false := decide_eq_false (by omega)
      have hd := HD.out
      rw [List.drop_of_length_le (by omega)] at hd
      have hf := found_of (hd.trans rfl : findIn at_ rows none = st)
      rw [HF.out, ← HO.out.1] at hf
      subst hf
      clear hd
      go_wp2_with (first
        | (refine load_rowW rowTy rfl (.tmp 6) rfl (w.heap.size + 1) 0 rfl out HO.out.2 (range_of_blk HY.out) ?_)
        | (refine store_rowW rowTy rfl (.tmp 4) (.tmp 26) rfl w.heap.size 0 out HO.out.2 rfl rfl (there_row HX.out zrow_len) ?_))
      exact bodyPost_ret (v := .tuple #[.agg (nums .i64 out).toArray, .bool st.isSome]) (results_list (rs := [.cell 4 35, .tmp 5]) rfl (by simp) (.cell w.heap.size 35 _ (0, 0) _ rfl (set_row HX.out zrow_len HO.out.2) Try.underlying35 rfl (by rw [List.size_toArray]; exact rowTy.sz HO.out.2) (.tmp .nil))) rfl ⟨rfl, HB.out.trans (below_grown (grown_setCells _ _ _ _) HB.out.size (Nat.le_refl _))⟩
    | succ gk =>
      have hltb : decide ((n : Int) < (rows.length : Int)) = true := decide_eq_true (by omega)
      obtain ⟨ad, rfl⟩ : ∃ ad, A = some ad := by
        obtain ⟨ad, e, _⟩ := (Kd.R_reads' H.out).2.2.2.2 (by omega)
        exact ⟨ad, e⟩
      obtain ⟨g, rfl⟩ := Kd.R_head H.out
      have hw := Kd.R_below H.out HB.out
      obtain ⟨l, hl, hl37, hra⟩ := rd_row hw n (by omega)
      have hix := row_ix rowTy g n rows.length c (by omega)
      have hdr : rows.drop n = l :: rows.drop (n + 1) := by
        rw [List.drop_eq_getElem_cons (by omega)]
        rw [List.getElem?_eq_getElem (by omega)] at hl
        rw [Option.some.inj hl]
      have HDR := Aside0.mk hdr
      have HRA := Aside0.mk hra
      have HL37 := Aside0.mk hl37
      have hbx := box_new (tr := 35) (w := wr) (g := wr.heap.size) rfl hl37
      have hw5 := below_step HB.out hbx.2
      have e0 : ((wr.alloc (.cells (nums .i64 zrow).toArray 35)).setCells wr.heap.size 0 (nums .i64 l)).cell? ⟨wr.heap.size, 0, none⟩ = some (.int .i64 (l.getD 0 0)) := by
        rw [blk_cell hbx.1, List.getElem?_toArray]; exact nums_get (by omega)
      have HY5 := Aside0.mk (blk_below HY.out hbx.2)
      have HX5 := Aside0.mk (blk_below HX.out hbx.2)
      have HZ5 := Aside0.mk hbx.1
      have HB5 := Aside0.mk hw5
      have HNE := Aside0.mk (show w.heap.size + 1 < wr.heap.size from blk_lt HY.out)
      have HTH := Aside0.mk (there_row (blk_new wr (.cells (nums .i64 zrow).toArray 35)) zrow_len)
      obtain ⟨x, hx⟩ : ∃ x, l.getD 0 0 = x := ⟨_, rfl⟩
      rw [hx] at e0
      have HXX := Aside0.mk hx
      have hfi : findIn at_ (l :: rows.drop (n + 1)) st = if at_ < 0 ∨ at_ < x then st else findIn at_ (rows.drop (n + 1)) (some l) := by
        rw [← hx]; rfl
      rw [← hdr] at hfi
      have HFI := Aside0.mk hfi
      clear hdr hra hl37 hw hl hbx hw5 hx hfi
      by_cases cb : at_ < 0 ∨ at_ < x
      · have hd := HD.out
        rw [HFI.out, if_pos cb] at hd
        have hf := found_of hd
        rw [HF.out, ← HO.out.1] at hf
        subst hf
        clear hd
        by_cases c1 : at_ < 0
        · have c1b : decide (at_ < 0) = true := decide_eq_true c1
          clear c1 cb
          go_wp2_with (first
          | (refine load_rowW rowTy rfl (.tmp 14) rfl g (n * 37) rfl l HL37.out HRA.out ?_)
          | (refine alloc_rowW rowTy rfl rfl ?_)
          | (refine store_rowW rowTy rfl (.tmp 9) (.tmp 15) rfl wr.heap.size 0 l HL37.out rfl rfl HTH.out ?_)
          | (refine load_rowW rowTy rfl (.tmp 6) rfl (w.heap.size + 1) 0 rfl out HO.out.2 (range_of_blk HY5.out) ?_)
          | (refine store_rowW rowTy rfl (.tmp 4) (.tmp 26) rfl w.heap.size 0 out HO.out.2 rfl rfl (there_row HX5.out zrow_len) ?_))
          exact bodyPost_ret (v := .tuple #[.agg (nums .i64 out).toArray, .bool st.isSome]) (results_list (rs := [.cell 4 35, .tmp 5]) rfl (by simp) (.cell w.heap.size 35 _ (0, 0) _ rfl (set_row HX5.out zrow_len HO.out.2) Try.underlying35 rfl (by rw [List.size_toArray]; exact rowTy.sz HO.out.2) (.tmp .nil))) rfl ⟨rfl, HB5.out.trans (below_grown (grown_setCells _ _ _ _) HB5.out.size (Nat.le_refl _))⟩
        · have c1b : decide (at_ < 0) = false := decide_eq_false c1
          have c2b : decide (x > at_) = true := decide_eq_true (by omega)
          clear c1 cb
          go_wp2_with (first
          | (refine load_rowW rowTy rfl (.tmp 14) rfl g (n * 37) rfl l HL37.out HRA.out ?_)
          | (refine alloc_rowW rowTy rfl rfl ?_)
          | (refine store_rowW rowTy rfl (.tmp 9) (.tmp 15) rfl wr.heap.size 0 l HL37.out rfl rfl HTH.out ?_)
          | (refine load_rowW rowTy rfl (.tmp 6) rfl (w.heap.size + 1) 0 rfl out HO.out.2 (range_of_blk HY5.out) ?_)
          | (refine store_rowW rowTy rfl (.tmp 4) (.tmp 26) rfl w.heap.size 0 out HO.out.2 rfl rfl (there_row HX5.out zrow_len) ?_))
          exact bodyPost_ret (v := .tuple #[.agg (nums .i64 out).toArray, .bool st.isSome]) (results_list (rs := [.cell 4 35, .tmp 5]) rfl (by simp) (.cell w.heap.size 35 _ (0, 0) _ rfl (set_row HX5.out zrow_len HO.out.2) Try.underlying35 rfl (by rw [List.size_toArray]; exact rowTy.sz HO.out.2) (.tmp .nil))) rfl ⟨rfl, HB5.out.trans (below_grown (grown_setCells _ _ _ _) HB5.out.size (Nat.le_refl _))⟩
      · have c1 : ¬ at_ < 0 := fun h => cb (.inl h)
        have c2 : ¬ at_ < x := fun h => cb (.inr h)
        have c1b : decide (at_ < 0) = false := decide_eq_false c1
        have c2b : decide (x > at_) = false := decide_eq_false c2
        have hd := HD.out
        rw [HFI.out, if_neg cb] at hd
        have HD2 := Aside0.mk hd
        clear hd cb c1 c2
        go_wp2_with (first
          | (refine load_rowW rowTy rfl (.tmp 14) rfl g (n * 37) rfl l HL37.out HRA.out ?_)
          | (refine alloc_rowW rowTy rfl rfl ?_)
          | (refine store_rowW rowTy rfl (.tmp 9) (.tmp 15) rfl wr.heap.size 0 l HL37.out rfl rfl HTH.out ?_)
          | (refine load_rowW rowTy rfl (.tmp 9) rfl wr.heap.size 0 rfl l HL37.out (range_of_blk HZ5.out) ?_)
          | (refine store_rowW rowTy rfl (.tmp 6) (.tmp 24) rfl (w.heap.size + 1) 0 l HL37.out rfl rfl (there_row HY5.out HO.out.2) ?_))
        go_roundg gk
        case measure => omega
        case rel => exact ⟨n + 1, some l, l, by omega, by go_num, rfl, HD2, ⟨rfl, HL37.out⟩, ⟨set_row HY5.out HO.out.2 HL37.out⟩, ⟨(setCells_far _ 0 _ (by omega)).trans HX5.out⟩, ⟨HB5.out.trans (below_grown (grown_setCells _ _ _ _) HB5.out.size (by omega))⟩⟩
end Go.Proofs.Ytngddlihppomhaa.Cfa
