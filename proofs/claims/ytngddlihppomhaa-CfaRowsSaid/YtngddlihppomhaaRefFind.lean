/- The reference's Find: what it answers, for any rows and any place. -/
import Derived.Test.YtngddlihppomhaaRefRun
namespace Go.Proofs.Ytngddlihppomhaa.CfaR
set_option linter.unusedVariables false
set_option linter.unusedSimpArgs false
open Go.RowKit Go.Proofs.Ytngddlihppomhaa.G Go.Proofs.YtngddlihppomhaaW.PrintWords Go.Proofs.YtngddlihppomhaaW.PrintLast Go.Proofs.YtngddlihppomhaaW.PrintMore Go.Proofs.Ytngddlihppomhaa.Cfa
theorem build_zero (w : World) : (Instr.build 53 #[]).run Try.prog w = .ok (.agg (nums .i64 zrow).toArray) w := by
  have hZ : Array.replicate 37 (Value.int .i64 0) = (nums .i64 zrow).toArray := by
    rw [zrow, nums, List.map_replicate, List.toArray_replicate]
  have hb : (Instr.build 53 #[]).run Try.prog w = .ok (.agg (Array.replicate 37 (Value.int .i64 0))) w := by kernel_rfl
  rw [hb, hZ]
theorem build_zero_run {o : Oper} {a : Act} (w : World) (ho : o.op = .build 53 #[]) : (execOp a.eval o).run Try.prog w = .ok (.value (.agg (nums .i64 zrow).toArray)) w := by
  have hb := build_zero w
  unfold execOp
  simp only [ho, List.map_toArray, List.map_nil, Sem.run_bind, hb, Result.andThen_ok, Sem.run_pure]
set_option maxRecDepth 100000 in
theorem find_calls (v : Value) (rows : List Row) (at_ : Int) (base : Nat) (ok : Nat → Prop) (w : World) (h : Kd.R rowK 53 w base ok v rows) (hlen : rows.length ≤ 100000) :
    Calls Try.prog 19 #[v, .int .i64 at_] w fun e w' => e = .returned (.tuple #[.agg (nums .i64 (found rows at_).1).toArray, .bool (found rows at_).2]) ∧ Below w.heap.size w w' := by
  obtain ⟨A, c, rfl⟩ := Kd.R_slice h
  have hbase := Kd.R_lt h
  have H := Aside0.mk h
  obtain ⟨F, hF⟩ : ∃ F, found rows at_ = F := ⟨_, rfl⟩
  rw [hF]
  have HF := Aside0.mk hF
  clear h hF
  have hB0 := below_alloc (below_alloc (Below.refl w.heap.size w) (.cells (nums .i64 zrow).toArray 53)) (.cells (nums .i64 zrow).toArray 53)
  have hX0 := blk_alloc (blk_new w (.cells (nums .i64 zrow).toArray 53)) (.cells (nums .i64 zrow).toArray 53)
  have hY0 := blk_new (w.alloc (.cells (nums .i64 zrow).toArray 53)) (.cells (nums .i64 zrow).toArray 53)
  have hsz : (w.alloc (.cells (nums .i64 zrow).toArray 53)).heap.size = w.heap.size + 1 := by simp
  rw [hsz] at hY0
  have HTH := Aside0.mk (there_row hY0 zrow_len)
  have HB := Aside0.mk (hB0.trans (below_grown (grown_setCells _ (w.heap.size + 1) 0 (nums .i64 zrow)) hB0.size (Nat.le_succ _)))
  have HX := Aside0.mk ((setCells_far (nums .i64 zrow) 0 w.heap.size (show w.heap.size ≠ w.heap.size + 1 by omega)).trans hX0)
  have HY := Aside0.mk (set_row hY0 zrow_len zrow_len)
  clear hsz hB0 hX0 hY0
  go_enter Try.func19, Try.ntmps19
  go_wp2_with (first
    | (refine alloc_rowW rowTy rfl rfl ?_)
    | ((with_reducible refine gate_dst (N := 9) rfl ?_); refine Kd.event_run rfl (build_zero_run _ rfl) ?_)
    | ((with_reducible refine gate_store (p := 7) rfl ?_); refine store_rowW rowTy rfl (.tmp 7) (.tmp 9) rfl (w.heap.size + 1) 0 zrow zrow_len (by go_simp) rfl HTH.out ?_))
  generalize (((w.alloc (Obj.cells (nums .i64 zrow).toArray 53)).alloc (Obj.cells (nums .i64 zrow).toArray 53)).setCells (w.heap.size + 1) 0 (nums .i64 zrow)) = w1 at *
  clear HTH
  go_loopg [6, 8] rows.length (fun kq v7 i w' => ∃ (n : Nat) (st : Option Row) (out : Row), n + kq = rows.length ∧ i = .int .i64 (n : Int) ∧ v7 = .bool st.isSome ∧ Aside0 (findIn at_ rows none = findIn at_ (rows.drop n) st) ∧ Aside0 (out = st.getD zrow ∧ out.length = 37) ∧ Aside0 (w'.heap[w.heap.size + 1]? = some (.cells (nums .i64 out).toArray 53 (0, 0))) ∧ Aside0 (w'.heap[w.heap.size]? = some (.cells (nums .i64 zrow).toArray 53 (0, 0))) ∧ Aside0 (Below w.heap.size w w'))
  case atStart => exact ⟨0, none, zrow, by omega, rfl, rfl, ⟨rfl⟩, ⟨rfl, zrow_len⟩, HY, HX, HB⟩
  case round =>
    clear HY HX HB
    obtain ⟨n, st, out, hn, rfl, rfl, HD, HO, HY, HX, HB⟩ := hrel
    cases gk with
    | zero =>
      have hltb : decide ((n : Int) < (rows.length : Int)) = false := decide_eq_false (by omega)
      have hd := HD.out
      rw [List.drop_of_length_le (by omega)] at hd
      have hf := found_of (hd.trans rfl : findIn at_ rows none = st)
      rw [HF.out, ← HO.out.1] at hf
      subst hf
      clear hd
      go_wp2_with (first
        | ((with_reducible refine gate_dst (N := 33) rfl ?_); refine load_rowW rowTy rfl (.tmp 7) rfl (w.heap.size + 1) 0 rfl out HO.out.2 (range_of_blk HY.out) ?_)
        | ((with_reducible refine gate_store (p := 4) rfl ?_); refine store_rowW rowTy rfl (.tmp 4) (.tmp 33) rfl w.heap.size 0 out HO.out.2 rfl rfl (there_row HX.out zrow_len) ?_))
      exact bodyPost_ret (v := .tuple #[.agg (nums .i64 out).toArray, .bool st.isSome]) (results_list (rs := [.cell 4 53, .tmp 5]) rfl (by simp) (.cell w.heap.size 53 _ (0, 0) _ rfl (set_row HX.out zrow_len HO.out.2) Try.underlying53 rfl (by rw [List.size_toArray]; exact rowTy.sz HO.out.2) (.tmp .nil))) rfl ⟨rfl, HB.out.trans (below_grown (grown_setCells _ _ _ _) HB.out.size (Nat.le_refl _))⟩
    | succ gk =>
      have hltb : decide ((n : Int) < (rows.length : Int)) = true := decide_eq_true (by omega)
      obtain ⟨ad, rfl⟩ : ∃ ad, A = some ad := by
        obtain ⟨ad, e, _⟩ := (Kd.R_reads' H.out).2.2.2.2 (by omega)
        exact ⟨ad, e⟩
      obtain ⟨g, rfl⟩ := Kd.R_head H.out
      have hw := Kd.R_below H.out HB.out
      obtain ⟨l, hl, hl37, hra⟩ := rd_row hw n (by omega)
      have hix := row_ix rowTy g n rows.length c (by omega)
      have hdr : rows.drop n = l :: rows.drop (n + 1) := by
        rw [List.drop_eq_getElem_cons (by omega)]
        rw [List.getElem?_eq_getElem (by omega)] at hl
        rw [Option.some.inj hl]
      have HDR := Aside0.mk hdr
      have HRA := Aside0.mk hra
      have HL37 := Aside0.mk hl37
      have e0 : wr.cell? ⟨g, n * 37, none⟩ = some (.int .i64 (l.getD 0 0)) := hra 0 _ (nums_get (by omega))
      obtain ⟨x, hx⟩ : ∃ x, l.getD 0 0 = x := ⟨_, rfl⟩
      rw [hx] at e0
      have HXX := Aside0.mk hx
      have hfi : findIn at_ (l :: rows.drop (n + 1)) st = if at_ < 0 ∨ at_ < x then st else findIn at_ (rows.drop (n + 1)) (some l) := by
        rw [← hx]; rfl
      rw [← hdr] at hfi
      have HFI := Aside0.mk hfi
      have HNE := Aside0.mk (show w.heap.size + 1 < wr.heap.size from blk_lt HY.out)
      have hw1 : wrap64 ((n : Int) + 1) = (n : Int) + 1 := by unfold wrap64; omega
      clear hdr hra hl37 hw hl hx hfi
      by_cases cb : at_ < 0 ∨ at_ < x
      · have hd := HD.out
        rw [HFI.out, if_pos cb] at hd
        have hf := found_of hd
        rw [HF.out, ← HO.out.1] at hf
        subst hf
        clear hd
        by_cases c1 : at_ < 0
        · have c1b : decide (at_ ≥ 0) = false := decide_eq_false (by omega)
          clear c1 cb
          go_wp2_with (first
            | ((with_reducible refine gate_dst (N := 33) rfl ?_); refine load_rowW rowTy rfl (.tmp 7) rfl (w.heap.size + 1) 0 rfl out HO.out.2 (range_of_blk HY.out) ?_)
            | ((with_reducible refine gate_store (p := 4) rfl ?_); refine store_rowW rowTy rfl (.tmp 4) (.tmp 33) rfl w.heap.size 0 out HO.out.2 rfl rfl (there_row HX.out zrow_len) ?_))
          exact bodyPost_ret (v := .tuple #[.agg (nums .i64 out).toArray, .bool st.isSome]) (results_list (rs := [.cell 4 53, .tmp 5]) rfl (by simp) (.cell w.heap.size 53 _ (0, 0) _ rfl (set_row HX.out zrow_len HO.out.2) Try.underlying53 rfl (by rw [List.size_toArray]; exact rowTy.sz HO.out.2) (.tmp .nil))) rfl ⟨rfl, HB.out.trans (below_grown (grown_setCells _ _ _ _) HB.out.size (Nat.le_refl _))⟩
        · have c1b : decide (at_ ≥ 0) = true := decide_eq_true (by omega)
          have c2b : decide (x ≤ at_) = false := decide_eq_false (by omega)
          clear c1 cb
          go_wp2_with (first
            | ((with_reducible refine gate_dst (N := 33) rfl ?_); refine load_rowW rowTy rfl (.tmp 7) rfl (w.heap.size + 1) 0 rfl out HO.out.2 (range_of_blk HY.out) ?_)
            | ((with_reducible refine gate_store (p := 4) rfl ?_); refine store_rowW rowTy rfl (.tmp 4) (.tmp 33) rfl w.heap.size 0 out HO.out.2 rfl rfl (there_row HX.out zrow_len) ?_))
          exact bodyPost_ret (v := .tuple #[.agg (nums .i64 out).toArray, .bool st.isSome]) (results_list (rs := [.cell 4 53, .tmp 5]) rfl (by simp) (.cell w.heap.size 53 _ (0, 0) _ rfl (set_row HX.out zrow_len HO.out.2) Try.underlying53 rfl (by rw [List.size_toArray]; exact rowTy.sz HO.out.2) (.tmp .nil))) rfl ⟨rfl, HB.out.trans (below_grown (grown_setCells _ _ _ _) HB.out.size (Nat.le_refl _))⟩
      · have c1b : decide (at_ ≥ 0) = true := decide_eq_true (by omega)
        have c2b : decide (x ≤ at_) = true := decide_eq_true (by omega)
        have hd := HD.out
        rw [HFI.out, if_neg cb] at hd
        have HD2 := Aside0.mk hd
        clear hd cb
        go_wp2_with (first
          | ((with_reducible refine gate_dst (N := 32) rfl ?_); refine load_rowW rowTy rfl (.tmp 31) rfl g (n * 37) rfl l HL37.out HRA.out ?_)
          | ((with_reducible refine gate_store (p := 7) rfl ?_); refine store_rowW rowTy rfl (.tmp 7) (.tmp 32) rfl (w.heap.size + 1) 0 l HL37.out rfl rfl (there_row HY.out HO.out.2) ?_))
        go_roundg gk
        case measure => omega
        case rel => exact ⟨n + 1, some l, l, by omega, by go_num, rfl, HD2, ⟨rfl, HL37.out⟩, ⟨set_row HY.out HO.out.2 HL37.out⟩, ⟨(setCells_far _ 0 _ (by omega)).trans HX.out⟩, ⟨HB.out.trans (below_grown (grown_setCells _ _ _ _) HB.out.size (by omega))⟩⟩
end Go.Proofs.Ytngddlihppomhaa.CfaR
