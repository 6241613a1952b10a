/- CfaKept: the law's code answers true. -/
import Derived.Test.YtngddlihppomhaaCfaTogetherWalk
namespace Go.Proofs.Ytngddlihppomhaa.Cfa
set_option linter.unusedVariables false
set_option linter.unusedSimpArgs false
open Go.RowKit Go.Proofs.Ytngddlihppomhaa.G Go.Proofs.YtngddlihppomhaaW.PrintWords Go.Proofs.YtngddlihppomhaaW.PrintLast Go.Proofs.YtngddlihppomhaaW.PrintMore
/-- What the law puts between a Remember and a Recall. -/
def filt (l : List S41) : List S41 := l.filter fun o => o.f0 != 9 && o.f0 != 10
def keptOps (l : List S41) : List S40 := (⟨9, 0, 0⟩ : S40) :: conv (filt l)
theorem keptOps_len (l : List S41) (n : Nat) : (keptOps (l.take n)).length ≤ l.length + 1 := by
  unfold keptOps filt
  rw [List.length_cons, conv_length]
  have := List.length_filter_le (fun o : S41 => o.f0 != 9 && o.f0 != 10) (l.take n)
  rw [List.length_take] at this
  omega
theorem keptOps_skip {l : List S41} {n : Nat} (hn : n < l.length) (h : ((rd_T41 l n).f0 != 9 && (rd_T41 l n).f0 != 10) = false) : keptOps (l.take (n + 1)) = keptOps (l.take n) := by
  have hrd : rd_T41 l (n : Int) = l[n] := by simp [rd_T41, List.getD, hn]
  rw [hrd] at h
  unfold keptOps filt
  rw [List.take_succ_eq_append_getElem hn, List.filter_append, List.filter_cons_of_neg (by simpa using h), List.filter_nil, List.append_nil]
theorem keptOps_take {l : List S41} {n : Nat} (hn : n < l.length) (h : ((rd_T41 l n).f0 != 9 && (rd_T41 l n).f0 != 10) = true) : keptOps (l.take (n + 1)) = keptOps (l.take n) ++ [(⟨(rd_T41 l n).f0, (rd_T41 l n).f1, (rd_T41 l n).f2⟩ : S40)] := by
  have hrd : rd_T41 l (n : Int) = l[n] := by simp [rd_T41, List.getD, hn]
  rw [hrd] at h ⊢
  unfold keptOps filt
  rw [List.take_succ_eq_append_getElem hn, List.filter_append, List.filter_cons_of_pos (by simpa using h), List.filter_nil]
  unfold conv
  rw [List.map_append]
  rfl
theorem kept_F (l : List S41) : ∀ o ∈ opl (conv (filt l)), o.1 ≠ 9 ∧ o.1 ≠ 10 := by
  intro o ho
  unfold opl conv at ho
  rw [List.map_map] at ho
  obtain ⟨x, hx, rfl⟩ := List.mem_map.1 ho
  unfold filt at hx
  have := (List.mem_filter.1 hx).2
  simp only [Bool.and_eq_true, bne_iff_ne, ne_eq] at this
  exact this
theorem n_stepK {n k m : Nat} (h : n + (k + 1) = m) : n + 1 + k = m ∧ n < m := by omega
theorem lt_dec {n m : Nat} (h : n < m) : decide ((n : Int) < (m : Int)) = true := decide_eq_true (by omega)
theorem ge_dec {n m : Nat} (h : n + 0 = m) : decide ((n : Int) < (m : Int)) = false ∧ ¬ n < m := ⟨decide_eq_false (by omega), by omega⟩
theorem wrapK {n m : Nat} (h : n < m) (hm : m * 24 ≤ 140737488351232) : wrap64 ((n : Int) + 1) = (n : Int) + 1 := by unfold wrap64; omega
theorem limK {a l : Nat} (h : a ≤ l + 1) (hl : l * 24 ≤ 140737488351232) : (a + 1) * 24 ≤ 140737488355328 := by omega
theorem kept_shape {x : Row} {L M M' : List Row} {a : Int} (h1 : L = [x]) (h2 : M = M' ++ [x.set 0 a]) (hf : M.length ≤ 100000) : ∃ n m : Nat, n < L.length ∧ m < M.length ∧ IntKind.i64.wrap ((L.length : Int) - 1) = (n : Int) ∧ IntKind.i64.wrap ((M.length : Int) - 1) = (m : Int) ∧ L[n]? = some x ∧ M[m]? = some (x.set 0 a) ∧ ((L.length : Int) == 1) = true := by
  subst h1
  subst h2
  rw [List.length_append, List.length_singleton] at hf
  refine ⟨0, M'.length, Nat.zero_lt_one, by simp, rfl, ?_, rfl, by simp, rfl⟩
  rw [IntKind.wrap_i64, List.length_append, List.length_singleton]
  omega
theorem box_cells {w : World} {b : Nat} {l : Row} {e : TypeId} (h : w.heap[b]? = some (.cells (nums .i64 l).toArray e (0, 0))) (hl : l.length = 37) : w.cell? ⟨b, 1, none⟩ = some (.int .i64 (l.getD 1 0)) ∧ w.cell? ⟨b, 2, none⟩ = some (.int .i64 (l.getD 2 0)) ∧ w.rangeAt b 3 (nums .i64 (l.drop 3)) := by
  refine ⟨by rw [blk_cell h, List.getElem?_toArray, nums_get (by omega)], by rw [blk_cell h, List.getElem?_toArray, nums_get (by omega)], fun j v hv => ?_⟩
  rw [blk_cell h, List.getElem?_toArray]
  unfold nums at hv ⊢
  rw [List.map_drop, List.getElem?_drop] at hv
  exact hv
theorem same_tail {x : Row} {a : Int} (hx : x.length = 37) : (x.set 0 a).getD 1 0 = x.getD 1 0 ∧ (x.set 0 a).getD 2 0 = x.getD 2 0 ∧ (x.set 0 a).drop 3 = x.drop 3 ∧ (x.set 0 a).length = 37 ∧ (x.drop 3).length = 34 := by
  match x, hx with
  | x0 :: x1 :: x2 :: xs, h => exact ⟨rfl, rfl, rfl, by simpa using h, by simpa using h⟩
theorem row_given {w : World} {e base : Nat} {ok : Nat → Prop} {g n c : Nat} {rows : List Row} {x : Row} (h : Kd.R rowK e w base ok (.slice (some ⟨g, 0, none⟩) n c) rows) (i : Nat) (hi : i < n) (hx : rows[i]? = some x) : w.rangeAt g (i * 37) (nums .i64 x) := by
  obtain ⟨l, h1, _, h3⟩ := rd_row h i hi
  rw [hx] at h1
  rw [Option.some.inj h1]
  exact h3
set_option maxHeartbeats 4000000 in
set_option maxRecDepth 100000 in
theorem kept_start (A0 : Option Addr) (c0 : Nat) (l0 : List S41) (A1 : Option Addr) (c1 : Nat) (l1 : List S41) (a2 : Int) (w : World)
    (hr0 : Kd.C k41 w A0 l0.length l0) (hc0 : l0.length ≤ c0) (hr1 : Kd.C k41 w A1 l1.length l1) (hc1 : l1.length ≤ c1) (hb0 : l0.length * 24 ≤ 140737488351232) (hb1 : l1.length * 24 ≤ 140737488351232)
    (L M : List Row) (er fr : Int) (he : rowsOf (opl (conv l0)) [] a2 = (L, er)) (hf : rowsOf (opl (conv l0)) (opl (keptOps l1 ++ [⟨10, 0, 0⟩])) a2 = (M, fr)) :
    Calls Try.prog 4 #[.slice A0 l0.length c0, .slice A1 l1.length c1, .int .i64 a2] w fun e w' => e = .returned (.bool true) ∧ Below w.heap.size w w' := by
  have HR0 := Aside0.mk hr0
  have HR1 := Aside0.mk hr1
  have HE := Aside0.mk he
  have HF := Aside0.mk hf
  have HL0 := Aside0.mk hb0
  have HL1 := Aside0.mk hb1
  clear hr0 hr1 he hf hb0 hb1
  go_enter Try.func4, Try.ntmps4
  go_wp2_with fail
  refine (ops_calls A0 c0 l0 _ HR0.out hc0 HL0.out).mono ?_
  rintro e w1 ⟨B0, k0, rfl, hx0, hw1⟩
  have HB1 := Aside0.mk hw1
  have hcall := rows_calls B0 k0 (conv l0) none 0 [] a2 _ (Kd.R_reads' hx0).2.2 (Kd.C_nil _ _)
  rw [show opl ([] : List S40) = [] from rfl, HE.out] at hcall
  have HC := Aside0.mk hcall
  clear hx0 hw1 hcall
  go_wp2_with fail
  refine HC.out.mono ?_
  clear HC
  rintro e w3 ⟨v, rfl, hv, hw3⟩
  have HB3 := Aside0.mk (below_step HB1.out hw3)
  have HV := Aside0.mk hv
  clear hv hw3 HB1
  simp only []
  go_wp2_with (((with_reducible refine gate_builtin (b := .append) (xs := #[.tmp 22, .tmp 24]) rfl ?_); at_builtin; refine Kd.R_append k40 (w0 := w3) w3.heap.size rfl (.tmp 22) (.tmp 24) 27 40 _ 24 rfl Try.underlying27 info40 rfl (by decide) (by decide) (.slice none 0 0) [] (⟨9, 0, 0⟩ : S40) [.int .i64 9, .int .i64 0, .int .i64 0] (fun _ => True) (fun _ => False) rfl rfl (k40_mkM _ _ _ _) (fun _ h => h.elim) (fun _ _ => trivial) (Kd.R_nil _ _ _ _ _) (Below.refl _ _) (Nat.le_refl _) (by decide) ?_); intro v4 w4 ho4 hb4 hg4 hat4; have HO := Aside0.mk ho4; have HW34 := Aside0.mk hb4; clear ho4 hb4 hg4 hat4)
  go_loopg [9, 10] l1.length (fun kq v9 i w' => ∃ n : Nat, n + kq = l1.length ∧ i = .int .i64 (n : Int) ∧ Aside0 (Kd.R k40 40 w' w3.heap.size (fun _ => True) v9 (keptOps (l1.take n))) ∧ Aside0 (Below w3.heap.size w3 w'))
  case atStart => exact ⟨0, by omega, rfl, HO, HW34⟩
  case round =>
    clear HO HW34
    obtain ⟨n, hn, rfl, HO, HW⟩ := hrel
    cases gk with
    | zero =>
      obtain ⟨hltb, hnl⟩ := ge_dec hn
      have hno : keptOps (l1.take n) = keptOps l1 := by rw [List.take_of_length_le (show l1.length ≤ n from Nat.le_of_eq hn.symm)]
      rw [hno] at HO
      have HLEN := Aside0.mk (limK (by have := keptOps_len l1 n; rwa [hno] at this) HL1.out)
      clear hn hno
      go_wp2_with fail
      refine (ops_calls A0 c0 l0 _ (Kd.C_below HR0.out (below_step HB3.out HW.out)) hc0 HL0.out).mono ?_
      rintro e w6 ⟨B2, k2, rfl, hx2, hw6⟩
      have HX2 := Aside0.mk hx2
      have HW6 := Aside0.mk hw6
      clear hx2 hw6
      simp only []
      go_wp2_with (((with_reducible refine gate_builtin (b := .append) (xs := #[.tmp 68, .tmp 70]) rfl ?_); at_builtin; refine Kd.R_append k40 (w0 := w3) w3.heap.size rfl (.tmp 68) (.tmp 70) 27 40 _ 24 rfl Try.underlying27 info40 rfl (by decide) (by decide) u9 (keptOps l1) (⟨10, 0, 0⟩ : S40) [.int .i64 10, .int .i64 0, .int .i64 0] (fun _ => True) (fun _ => False) rfl rfl (k40_mkM _ _ _ _) (fun _ h => h.elim) (fun _ _ => trivial) (Kd.R_below HO.out HW6.out) ((HW.out).trans (HW6.out.mono HW.out.size)) (Nat.le_trans HW.out.size HW6.out.size) HLEN.out ?_); intro v7 w7 ho7 hb7 hg7 hat7; have HX7 := Aside0.mk ho7; have HW37 := Aside0.mk hb7; have HG7 := Aside0.mk hg7; clear ho7 hb7 hg7 hat7)
      have hx27 : Kd.R k40 40 w7 wr.heap.size (fun _ => True) (.slice B2 (conv l0).length k2) (conv l0) :=
        Kd.R_mono (Kd.R_grown (Kd.R_bound HX2.out) HG7.out (fun k hk e => Nat.lt_irrefl k (Nat.lt_of_lt_of_le (Kd.R_lt HO.out k e.symm) hk.2.1))) (fun _ _ => trivial)
      obtain ⟨B7, k7, rfl⟩ := Kd.R_slice HX7.out
      have hcall := rows_of_R (size := a2) hx27 HX7.out
      rw [HF.out] at hcall
      have HC := Aside0.mk hcall
      clear hcall hx27
      refine HC.out.mono ?_
      clear HC
      rintro e w8 ⟨vm, rfl, hvm, hw8⟩
      have HW38 := Aside0.mk (below_step HW37.out hw8)
      have HV8 := Aside0.mk (Kd.R_below HV.out HW38.out)
      have HM8 := Aside0.mk hvm
      have HB8 := Aside0.mk (below_step HB3.out HW38.out)
      clear hvm hw8 HX2 HX7 HV HW37 HW38 HO HW HG7 HW6 HLEN
      simp only []
      by_cases her : er = 0
      · subst her
        by_cases hfr : fr = 0
        · subst hfr
          obtain ⟨x, M', hLx, hMx, hx37, hfM⟩ := kept_law (kept_F l1) HE.out (by rw [← HF.out, opl_append]; rfl)
          obtain ⟨n, m, hnl, hml, g1, g2, hLn, hMm, hl1⟩ := kept_shape hLx hMx hfM
          obtain ⟨t1, t2, t3, hy37, hx34⟩ := same_tail (a := at0 (M.getLastD [])) hx37
          obtain ⟨y, hy⟩ : ∃ y, x.set 0 (at0 (M.getLastD [])) = y := ⟨_, rfl⟩
          rw [hy] at hMm t1 t2 t3 hy37
          obtain ⟨V, cL, rfl⟩ := Kd.R_slice HV8.out
          obtain ⟨ad, rfl⟩ : ∃ ad, V = some ad := by
            obtain ⟨ad, e, _⟩ := (Kd.R_reads' HV8.out).2.2.2.2 (Nat.lt_of_le_of_lt (Nat.zero_le _) hnl)
            exact ⟨ad, e⟩
          obtain ⟨g, rfl⟩ := Kd.R_head HV8.out
          obtain ⟨V2, cM, rfl⟩ := Kd.R_slice HM8.out
          obtain ⟨ad, rfl⟩ : ∃ ad, V2 = some ad := by
            obtain ⟨ad, e, _⟩ := (Kd.R_reads' HM8.out).2.2.2.2 (Nat.lt_of_le_of_lt (Nat.zero_le _) hml)
            exact ⟨ad, e⟩
          obtain ⟨gm, rfl⟩ := Kd.R_head HM8.out
          have hix := row_ix rowTy g n L.length cL hnl
          have hiy := row_ix rowTy gm m M.length cM hml
          have HLN := Aside0.mk hLn
          have HMM := Aside0.mk hMm
          have HX37 := Aside0.mk hx37
          have HX34 := Aside0.mk hx34
          have HT := Aside0.mk (And.intro t1 (And.intro t2 t3))
          have HY37 := Aside0.mk hy37
          have HNL := Aside0.mk hnl
          have HML := Aside0.mk hml
          clear hLn hMm hx37 hx34 t1 t2 t3 hy37 hnl hml hLx hMx hfM hy
          go_wp2_with fail
          refine (gangwaylaw13_num.calls 0 0 _ rfl).mono ?_
          rintro e w9 ⟨rfl, ⟨n9, rfl⟩⟩
          go_wp2_with fail
          refine (gangwaylaw13_num.calls 0 0 _ rfl).mono ?_
          rintro e w10 ⟨rfl, ⟨n10, rfl⟩⟩
          go_wp2_with fail
          refine (knows_calls _).mono ?_
          rintro e w11 ⟨rfl, hw11⟩
          have HV11 := Aside0.mk (Kd.R_below (Kd.R_drewN HV8.out _) hw11)
          have HM11 := Aside0.mk (Kd.R_below (Kd.R_drewN HM8.out _) hw11)
          have HB11 := Aside0.mk (below_step (pw_below_drewN HB8.out _) hw11)
          clear hw11 HV8 HM8 HB8
          have HRA := Aside0.mk (row_given HV11.out n HNL.out HLN.out)
          have hbx := box_new (tr := 35) (w := w11) (g := w11.heap.size) rfl HX37.out
          have HTH := Aside0.mk (there_row (blk_new w11 (.cells (nums .i64 zrow).toArray 35)) zrow_len)
          have HZ := Aside0.mk hbx
          clear hbx
          go_wp2_with (first
            | (refine load_rowW rowTy rfl (.tmp 103) rfl g (n * 37) rfl x HX37.out HRA.out ?_)
            | (refine alloc_rowW rowTy rfl rfl ?_)
            | (refine store_rowW rowTy rfl (.tmp 13) (.tmp 104) rfl w11.heap.size 0 x HX37.out rfl rfl HTH.out ?_
               generalize ((w11.alloc (.cells (nums .i64 zrow).toArray 35)).setCells w11.heap.size 0 (nums .i64 x)) = W1 at HZ ⊢
               have HRB := Aside0.mk (row_given (Kd.R_below HM11.out HZ.out.2) m HML.out HMM.out)
               have hby := box_new (tr := 35) (w := W1) (g := W1.heap.size) rfl HY37.out
               have HTH2 := Aside0.mk (there_row (blk_new W1 (.cells (nums .i64 zrow).toArray 35)) zrow_len)
               have HZ2 := Aside0.mk hby
               clear hby HTH)
            | (refine load_rowW rowTy rfl (.tmp 109) rfl gm (m * 37) rfl y HY37.out HRB.out ?_)
            | (refine store_rowW rowTy rfl (.tmp 14) (.tmp 110) rfl W1.heap.size 0 y HY37.out rfl rfl HTH2.out ?_
               generalize ((W1.alloc (.cells (nums .i64 zrow).toArray 35)).setCells W1.heap.size 0 (nums .i64 y)) = W2 at HZ2 ⊢
               have HBZ := Aside0.mk (below_step (below_step HB11.out HZ.out.2) HZ2.out.2)
               obtain ⟨p1, p2, p3⟩ := box_cells (blk_below HZ.out.1 HZ2.out.2) HX37.out
               obtain ⟨q1, q2, q3⟩ := box_cells HZ2.out.1 HY37.out
               rw [HT.out.1] at q1
               rw [HT.out.2.1] at q2
               rw [HT.out.2.2] at q3
               have HP3 := Aside0.mk p3
               have HQ3 := Aside0.mk q3
               clear p3 q3 HTH2 HZ HZ2 HT)
            | (refine gate_guard (by rfl) (load_rulesW rfl (.tmp 129) rfl w11.heap.size 3 rfl (x.drop 3) HX34.out HP3.out ?_))
            | (refine gate_guard (by rfl) (load_rulesW rfl (.tmp 131) rfl W1.heap.size 3 rfl (x.drop 3) HX34.out HQ3.out ?_))
            | (refine gate_guard (by rfl) (Kd.event_run rfl (eql_rules_same _ (.tmp 130) (.tmp 132) rfl (x.drop 3) HX34.out rfl rfl) ?_)))
          go_ret
          exact ⟨rfl, HBZ.out⟩
        · obtain ⟨d1, d2⟩ := may_ne hfr
          clear hfr
          go_wp2_with (first
            | ((with_reducible refine (gangwaylaw13_num.calls 0 0 _ rfl).mono ?_); rintro e w9 ⟨rfl, ⟨n9, rfl⟩⟩)
            | ((with_reducible refine (gangwaylaw13_num.calls er er _ rfl).mono ?_); rintro e w9 ⟨rfl, ⟨n9, rfl⟩⟩)
            | ((with_reducible refine (gangwaylaw13_num.calls fr fr _ rfl).mono ?_); rintro e w9 ⟨rfl, ⟨n9, rfl⟩⟩)
            | ((with_reducible refine (knows_calls _).mono ?_); rintro e w9 ⟨rfl, hw9⟩))
          go_ret
          exact ⟨rfl, below_step (pw_below_drewN HB8.out _) hw9⟩
      · have hfr : fr ≠ 0 := by
          have h1 : (rowsOf (opl (conv l0)) [] a2).2 ≠ 0 := by rw [HE.out]; exact her
          have h2 := rows_longer (c := opl (keptOps l1 ++ [⟨10, 0, 0⟩])) h1
          rw [List.nil_append, HF.out] at h2
          exact h2
        obtain ⟨d1, d2⟩ := may_ne hfr
        obtain ⟨d3, d4⟩ := may_ne her
        clear hfr her
        go_wp2_with (first
          | ((with_reducible refine (gangwaylaw13_num.calls 0 0 _ rfl).mono ?_); rintro e w9 ⟨rfl, ⟨n9, rfl⟩⟩)
          | ((with_reducible refine (gangwaylaw13_num.calls er er _ rfl).mono ?_); rintro e w9 ⟨rfl, ⟨n9, rfl⟩⟩)
          | ((with_reducible refine (gangwaylaw13_num.calls fr fr _ rfl).mono ?_); rintro e w9 ⟨rfl, ⟨n9, rfl⟩⟩)
          | ((with_reducible refine (knows_calls _).mono ?_); rintro e w9 ⟨rfl, hw9⟩))
        go_ret
        exact ⟨rfl, below_step (pw_below_drewN HB8.out _) hw9⟩
    | succ gk =>
      obtain ⟨hn2, hnl⟩ := n_stepK hn
      have hltb := lt_dec hnl
      have hw1 := wrapK hnl HL1.out
      obtain ⟨ad, rfl, hx0, hx1, hx2⟩ := at_T41 (Kd.C_below HR1.out (below_step HB3.out HW.out)) (n : Int) (Int.natCast_nonneg n) (Int.ofNat_lt.2 hnl)
      rw [Int.toNat_natCast] at hx0 hx1 hx2
      have hsk := keptOps_skip (l := l1) hnl
      have htk := keptOps_take (l := l1) hnl
      generalize rd_T41 l1 (n : Int) = x at *
      have HSK := Aside0.mk hsk
      have HTK := Aside0.mk htk
      have HN2 := Aside0.mk hn2
      clear hsk htk hn hn2
      by_cases c9 : x.f0 = 9
      · obtain ⟨d1, d2⟩ := may_eq c9
        have hs := HSK.out (by rw [d2]; rfl)
        have HO2 := Aside0.mk HO.out
        rw [← hs] at HO2
        clear hs c9 HSK HTK
        go_wp2
        go_roundg gk
        case measure => omega
        case rel => exact ⟨n + 1, HN2.out, by go_num, HO2, HW⟩
      · obtain ⟨d1, d2⟩ := may_ne c9
        by_cases c10 : x.f0 = 10
        · obtain ⟨d3, d4⟩ := may_eq c10
          have hs := HSK.out (by rw [d2, d4]; rfl)
          have HO2 := Aside0.mk HO.out
          rw [← hs] at HO2
          clear hs c9 c10 HSK HTK
          go_wp2
          go_roundg gk
          case measure => omega
          case rel => exact ⟨n + 1, HN2.out, by go_num, HO2, HW⟩
        · obtain ⟨d3, d4⟩ := may_ne c10
          have hs := HTK.out (by rw [d2, d4]; rfl)
          have HS := Aside0.mk hs
          have HLEN := Aside0.mk (limK (keptOps_len l1 n) HL1.out)
          clear hs c9 c10 HSK HTK
          go_wp2
          refine start_ (n := 20) (S := fun u => u.cell? (ad.add (n * 3)) = some (.int .i64 x.f0) ∧ u.cell? ⟨(ad.add (n * 3)).block, (ad.add (n * 3)).off + 1, none⟩ = some (.int .i64 x.f1) ∧ u.cell? ⟨(ad.add (n * 3)).block, (ad.add (n * 3)).off + 2, none⟩ = some (.int .i64 x.f2)) (ds := [17, 18]) #[false, false, false, false, false, false, false, false, false, false, false, false, false, false, false, false, false, false, false, false] (by kernel_rfl) rfl rfl ?_ (fun hHeld => ?_)
          case refine_1 => exact ⟨hx0, hx1, hx2⟩
          refine pure_ (i := 0) (N := some 46) (v := ?_) (a' := ?_) #[true, false, false, false, false, false, false, false, false, false, false, false, false, false, false, false, false, false, false, false] rfl rfl (by kernel_rfl) (fun _ _ _ h => h) (Or.inl ⟨by rfl, ?_⟩) ?_ ?_
          rotate_left
          · intro u
            go_simp
            with_reducible rfl
          rotate_left
          · simp only [Act.put, List.setIfInBounds_toArray, List.set_cons_zero, List.set_cons_succ, i64_w, i32_w]
            rfl
          refine pure_ (i := 1) (N := some 47) (v := ?_) (a' := ?_) #[true, true, false, false, false, false, false, false, false, false, false, false, false, false, false, false, false, false, false, false] rfl rfl (by kernel_rfl) (fun _ _ _ h => h) (Or.inl ⟨by rfl, ?_⟩) ?_ ?_
          rotate_left
          · intro u
            go_simp
            with_reducible rfl
          rotate_left
          · simp only [Act.put, List.setIfInBounds_toArray, List.set_cons_zero, List.set_cons_succ, i64_w, i32_w]
            rfl
          refine pure_ (i := 2) (N := some 48) (v := ?_) (a' := ?_) #[true, true, true, false, false, false, false, false, false, false, false, false, false, false, false, false, false, false, false, false] rfl rfl (by kernel_rfl) (fun _ _ _ h => h) (Or.inl ⟨by rfl, ?_⟩) ?_ ?_
          rotate_left
          · intro u
            go_simp
            with_reducible rfl
          rotate_left
          · simp only [Act.put, List.setIfInBounds_toArray, List.set_cons_zero, List.set_cons_succ, i64_w, i32_w]
            rfl
          refine pure_ (i := 3) (N := some 49) (v := ?_) (a' := ?_) #[true, true, true, true, false, false, false, false, false, false, false, false, false, false, false, false, false, false, false, false] rfl rfl (by kernel_rfl) (fun _ _ _ h => h) (Or.inl ⟨by rfl, ?_⟩) ?_ ?_
          rotate_left
          · intro u
            go_simp
            with_reducible rfl
          rotate_left
          · simp only [Act.put, List.setIfInBounds_toArray, List.set_cons_zero, List.set_cons_succ, i64_w, i32_w]
            rfl
          refine pure_ (i := 4) (N := some 50) (v := ?_) (a' := ?_) #[true, true, true, true, true, false, false, false, false, false, false, false, false, false, false, false, false, false, false, false] rfl rfl (by kernel_rfl) (fun _ _ _ h => h) (Or.inl ⟨by rfl, ?_⟩) ?_ ?_
          rotate_left
          · intro u
            go_simp
            with_reducible rfl
          rotate_left
          · simp only [Act.put, List.setIfInBounds_toArray, List.set_cons_zero, List.set_cons_succ, i64_w, i32_w]
            rfl
          refine take_ (i := 5) (N := some 51) (v := ?_) (a' := ?_) #[true, true, true, true, true, true, false, false, false, false, false, false, false, false, false, false, false, false, false, false] rfl rfl (by kernel_rfl) (fun _ _ _ h => h) (Or.inl ⟨by rfl, ?_⟩) hHeld ?_ ?_
          rotate_left
          · rintro u ⟨s0, s1, s2⟩
            go_simp
            with_reducible rfl
          rotate_left
          · simp only [Act.put, List.setIfInBounds_toArray, List.set_cons_zero, List.set_cons_succ, i64_w, i32_w]
            rfl
          refine pure_ (i := 6) (N := some 52) (v := ?_) (a' := ?_) #[true, true, true, true, true, true, true, false, false, false, false, false, false, false, false, false, false, false, false, false] rfl rfl (by kernel_rfl) (fun _ _ _ h => h) (Or.inl ⟨by rfl, ?_⟩) ?_ ?_
          rotate_left
          · intro u
            go_simp
            with_reducible rfl
          rotate_left
          · simp only [Act.put, List.setIfInBounds_toArray, List.set_cons_zero, List.set_cons_succ, i64_w, i32_w]
            rfl
          refine pure_ (i := 7) (N := some 53) (v := ?_) (a' := ?_) #[true, true, true, true, true, true, true, true, false, false, false, false, false, false, false, false, false, false, false, false] rfl rfl (by kernel_rfl) (fun _ _ _ h => h) (Or.inl ⟨by rfl, ?_⟩) ?_ ?_
          rotate_left
          · intro u
            go_simp
            with_reducible rfl
          rotate_left
          · simp only [Act.put, List.setIfInBounds_toArray, List.set_cons_zero, List.set_cons_succ, i64_w, i32_w]
            rfl
          refine pure_ (i := 8) (N := some 54) (v := ?_) (a' := ?_) #[true, true, true, true, true, true, true, true, true, false, false, false, false, false, false, false, false, false, false, false] rfl rfl (by kernel_rfl) (fun _ _ _ h => h) (Or.inl ⟨by rfl, ?_⟩) ?_ ?_
          rotate_left
          · intro u
            go_simp
            with_reducible rfl
          rotate_left
          · simp only [Act.put, List.setIfInBounds_toArray, List.set_cons_zero, List.set_cons_succ, i64_w, i32_w]
            rfl
          refine pure_ (i := 9) (N := some 55) (v := ?_) (a' := ?_) #[true, true, true, true, true, true, true, true, true, true, false, false, false, false, false, false, false, false, false, false] rfl rfl (by kernel_rfl) (fun _ _ _ h => h) (Or.inl ⟨by rfl, ?_⟩) ?_ ?_
          rotate_left
          · intro u
            go_simp
            with_reducible rfl
          rotate_left
          · simp only [Act.put, List.setIfInBounds_toArray, List.set_cons_zero, List.set_cons_succ, i64_w, i32_w]
            rfl
          refine take_ (i := 10) (N := some 56) (v := ?_) (a' := ?_) #[true, true, true, true, true, true, true, true, true, true, true, false, false, false, false, false, false, false, false, false] rfl rfl (by kernel_rfl) (fun _ _ _ h => h) (Or.inl ⟨by rfl, ?_⟩) hHeld ?_ ?_
          rotate_left
          · rintro u ⟨s0, s1, s2⟩
            go_simp
            with_reducible rfl
          rotate_left
          · simp only [Act.put, List.setIfInBounds_toArray, List.set_cons_zero, List.set_cons_succ, i64_w, i32_w]
            rfl
          refine pure_ (i := 11) (N := some 57) (v := ?_) (a' := ?_) #[true, true, true, true, true, true, true, true, true, true, true, true, false, false, false, false, false, false, false, false] rfl rfl (by kernel_rfl) (fun _ _ _ h => h) (Or.inl ⟨by rfl, ?_⟩) ?_ ?_
          rotate_left
          · intro u
            go_simp
            with_reducible rfl
          rotate_left
          · simp only [Act.put, List.setIfInBounds_toArray, List.set_cons_zero, List.set_cons_succ, i64_w, i32_w]
            rfl
          refine pure_ (i := 12) (N := some 58) (v := ?_) (a' := ?_) #[true, true, true, true, true, true, true, true, true, true, true, true, true, false, false, false, false, false, false, false] rfl rfl (by kernel_rfl) (fun _ _ _ h => h) (Or.inl ⟨by rfl, ?_⟩) ?_ ?_
          rotate_left
          · intro u
            go_simp
            with_reducible rfl
          rotate_left
          · simp only [Act.put, List.setIfInBounds_toArray, List.set_cons_zero, List.set_cons_succ, i64_w, i32_w]
            rfl
          refine pure_ (i := 13) (N := some 59) (v := ?_) (a' := ?_) #[true, true, true, true, true, true, true, true, true, true, true, true, true, true, false, false, false, false, false, false] rfl rfl (by kernel_rfl) (fun _ _ _ h => h) (Or.inl ⟨by rfl, ?_⟩) ?_ ?_
          rotate_left
          · intro u
            go_simp
            with_reducible rfl
          rotate_left
          · simp only [Act.put, List.setIfInBounds_toArray, List.set_cons_zero, List.set_cons_succ, i64_w, i32_w]
            rfl
          refine pure_ (i := 14) (N := some 60) (v := ?_) (a' := ?_) #[true, true, true, true, true, true, true, true, true, true, true, true, true, true, true, false, false, false, false, false] rfl rfl (by kernel_rfl) (fun _ _ _ h => h) (Or.inl ⟨by rfl, ?_⟩) ?_ ?_
          rotate_left
          · intro u
            go_simp
            with_reducible rfl
          rotate_left
          · simp only [Act.put, List.setIfInBounds_toArray, List.set_cons_zero, List.set_cons_succ, i64_w, i32_w]
            rfl
          refine take_ (i := 15) (N := some 61) (v := ?_) (a' := ?_) #[true, true, true, true, true, true, true, true, true, true, true, true, true, true, true, true, false, false, false, false] rfl rfl (by kernel_rfl) (fun _ _ _ h => h) (Or.inl ⟨by rfl, ?_⟩) hHeld ?_ ?_
          rotate_left
          · rintro u ⟨s0, s1, s2⟩
            go_simp
            with_reducible rfl
          rotate_left
          · simp only [Act.put, List.setIfInBounds_toArray, List.set_cons_zero, List.set_cons_succ, i64_w, i32_w]
            rfl
          refine pure_ (i := 16) (N := some 62) (v := ?_) (a' := ?_) #[true, true, true, true, true, true, true, true, true, true, true, true, true, true, true, true, true, false, false, false] rfl rfl (by kernel_rfl) (fun _ _ _ h => h) (Or.inl ⟨by rfl, ?_⟩) ?_ ?_
          rotate_left
          · intro u
            go_simp
            with_reducible rfl
          rotate_left
          · simp only [Act.put, List.setIfInBounds_toArray, List.set_cons_zero, List.set_cons_succ, i64_w, i32_w]
            rfl
          refine last_ (i := 17) (N := some 63) #[true, true, true, true, true, true, true, true, true, true, true, true, true, true, true, true, true, true, false, false] rfl rfl (by kernel_rfl) (by decide) (fun K hK => ?_)
          rw [if_pos (by rfl)]
          go_simp
          refine hK.out _ (wr.drew.alloc (.cells #[.int .i64 x.f0, .int .i64 x.f1, .int .i64 x.f2] 40)) ?_
          clear hK K
          refine last_ (i := 18) (N := some 64) #[true, true, true, true, true, true, true, true, true, true, true, true, true, true, true, true, true, true, true, false] rfl rfl (by kernel_rfl) (by decide) (fun K hK => ?_)
          refine Kd.R_append_step k40 (w0 := w3) w3.heap.size (by rfl) (.tmp 46) (.tmp 63) 27 40 _ 24 rfl Try.underlying27 info40 rfl (by decide) (by decide) u9 (keptOps (l1.take n)) (⟨x.f0, x.f1, x.f2⟩ : S40) [.int .i64 x.f0, .int .i64 x.f1, .int .i64 x.f2] (fun _ => True) (fun _ => False) rfl rfl (k40_mkM _ _ _ _) (fun _ h => h.elim) (fun _ _ => trivial) (Kd.R_drew HO.out) (below_drew HW.out) HW.out.size HLEN.out ?_
          intro v5 w5 ho5 hb5 hg5 hat5
          rw [← HS.out] at ho5
          have HO5 := Aside0.mk ho5
          have HW5 := Aside0.mk hb5
          clear ho5 hb5 hg5 hat5
          refine hK.out _ _ ?_
          clear hK K
          refine norm_ (a' := ?_) ?_ ?_
          rotate_left
          · show Act.put _ (some 64) _ = _
            simp only [Act.put, List.setIfInBounds_toArray, List.set_cons_zero, List.set_cons_succ, i64_w, i32_w]
            rfl
          refine pure_ (i := 19) (N := some 9) (v := ?_) (a' := ?_) #[true, true, true, true, true, true, true, true, true, true, true, true, true, true, true, true, true, true, true, true] rfl rfl (by kernel_rfl) (fun _ _ _ h => h) (Or.inl ⟨by rfl, ?_⟩) ?_ ?_
          rotate_left
          · intro u
            go_simp
            with_reducible rfl
          rotate_left
          · simp only [Act.put, List.setIfInBounds_toArray, List.set_cons_zero, List.set_cons_succ, i64_w, i32_w]
            rfl
          refine done_ (by kernel_rfl) ?_
          go_wp2
          go_roundg gk
          case measure => omega
          case rel => exact ⟨n + 1, HN2.out, by go_num, HO5, HW5⟩
theorem kept_calls (A0 : Option Addr) (c0 : Nat) (l0 : List S41) (A1 : Option Addr) (c1 : Nat) (l1 : List S41) (a2 : Int) (w : World)
    (hr0 : Kd.C k41 w A0 l0.length l0) (hc0 : l0.length ≤ c0) (hr1 : Kd.C k41 w A1 l1.length l1) (hc1 : l1.length ≤ c1) (hb : l0.length * 24 ≤ 140737488351232 ∧ l1.length * 24 ≤ 140737488351232) :
    Calls Try.prog 4 #[.slice A0 l0.length c0, .slice A1 l1.length c1, .int .i64 a2] w fun e w' => e = .returned (.bool true) ∧ Below w.heap.size w w' :=
  kept_start A0 c0 l0 A1 c1 l1 a2 w hr0 hc0 hr1 hc1 hb.1 hb.2 _ _ _ _ (Prod.eta _).symm (Prod.eta _).symm
end Go.Proofs.Ytngddlihppomhaa.Cfa
