/- CfaRows: the law's code answers true. -/
import Derived.Test.YtngddlihppomhaaRefRow
import Derived.Test.YtngddlihppomhaaGf17
namespace Go.Proofs.Ytngddlihppomhaa.CfaR
set_option linter.unusedVariables false
set_option linter.unusedSimpArgs false
open Go.RowKit Go.Proofs.Ytngddlihppomhaa.G Go.Proofs.YtngddlihppomhaaW.PrintWords Go.Proofs.YtngddlihppomhaaW.PrintLast Go.Proofs.YtngddlihppomhaaW.PrintMore Go.Proofs.Ytngddlihppomhaa.Cfa
theorem same_l0 (l : List S41) (hl : l.length ≤ 9223372036854775807) (d : Nat) : ∀ (kk i : Nat), i + d = l.length → d < kk → gangwaylaw13_same.l0 kk (conv l) l (i : Int) = some true := by
  induction d with
  | zero =>
    intro kk i h hk
    obtain ⟨kk, rfl⟩ : ∃ m, kk = m + 1 := ⟨kk - 1, by omega⟩
    rw [gangwaylaw13_same.l0, conv_length, if_neg (by omega)]
  | succ d ih =>
    intro kk i h hk
    obtain ⟨kk, rfl⟩ : ∃ m, kk = m + 1 := ⟨kk - 1, by omega⟩
    have hi : i < l.length := by omega
    have h1 : rd_T41 l (i : Int) = l[i] := by simp [rd_T41, List.getD, hi]
    have h2 : rd_T40 (conv l) (i : Int) = ⟨l[i].f0, l[i].f1, l[i].f2⟩ := by simp [rd_T40, List.getD, conv, hi]
    have hw : wrap64 ((i : Int) + 1) = ((i + 1 : Nat) : Int) := by unfold wrap64; omega
    rw [gangwaylaw13_same.l0, conv_length, if_pos (by omega), if_pos (by omega), if_pos (by omega), h1, h2, if_pos rfl, if_pos rfl, if_pos rfl, hw, ih kk (i + 1) (by omega) (by omega)]
theorem same_f (l : List S41) (hl : l.length * 24 ≤ 140737488351232) : gangwaylaw13_same.f (l.length + 1) (conv l) l = some true := by
  unfold gangwaylaw13_same.f
  rw [conv_length, if_pos rfl]
  exact same_l0 l (by omega) l.length _ 0 (by omega) (by omega)
theorem same_calls (A0 : Option Addr) (c0 : Nat) (A1 : Option Addr) (c1 : Nat) (l : List S41) (w : World) {b0 : Nat} {ok0 : Nat → Prop} (h0 : Kd.R k40 40 w b0 ok0 (.slice A0 (conv l).length c0) (conv l)) (h1 : Kd.C k41 w A1 l.length l) (hc : l.length ≤ c1) (hl : l.length * 24 ≤ 140737488351232) :
    Calls Try.prog 17 #[.slice A0 (conv l).length c0, .slice A1 l.length c1] w fun e w' => e = .returned (.bool true) ∧ Drawn0 w w' :=
  gangwaylaw13_same.calls (l.length + 1) A0 c0 (conv l) A1 c1 l true w (Kd.R_reads' h0).2.2 (Kd.R_reads' h0).2.1 h1 hc (same_f l hl)
theorem rows_few {a b : List (Int × Int × Int)} {size : Int} {L : List Row} {er : Int} (h : rowsOf a b size = (L, er)) : L.length ≤ 100000 := by
  by_cases c : er = 0
  · subst c
    exact (rows_rise h).few
  · have hb := rows_bad (a := a) (b := b) (size := size) (by rw [h]; exact c)
    rw [h] at hb
    have hb2 : L = [] := hb
    rw [hb2]
    exact Nat.zero_le _
theorem found_len {rows : List Row} (h : ∀ q ∈ rows, q.length = 37) (at_ : Int) : (found rows at_).1.length = 37 := by
  have key : ∀ (l : List Row) (st : Option Row), (∀ q ∈ l, q.length = 37) → (∀ q, st = some q → q.length = 37) → ∀ r, findIn at_ l st = some r → r.length = 37 := by
    intro l
    induction l with
    | nil => intro st _ hs r e; exact hs r e
    | cons x l ih =>
      intro st hl hs r e
      unfold findIn at e
      rcases ite_cases e with ⟨_, e⟩ | ⟨_, e⟩
      · exact hs r e
      · exact ih (some x) (fun q hq => hl q (List.mem_cons_of_mem _ hq)) (fun q hq => by cases hq; exact hl x (List.mem_cons_self ..)) r e
  unfold found
  cases hf : findIn at_ rows none with
  | none => exact zrow_len
  | some r => exact key rows none h (fun q hq => by cases hq) r hf
theorem rows_37 {w : World} {e base : Nat} {ok : Nat → Prop} {A : Option Addr} {n c : Nat} {rows : List Row} (h : Kd.R rowK e w base ok (.slice A n c) rows) (hn : n = rows.length) : ∀ q ∈ rows, q.length = 37 := by
  intro q hq
  obtain ⟨i, hi, rfl⟩ := List.getElem_of_mem hq
  obtain ⟨ad, rfl⟩ : ∃ ad, A = some ad := by
    obtain ⟨ad, e, _⟩ := (Kd.R_reads' h).2.2.2.2 (by omega)
    exact ⟨ad, e⟩
  obtain ⟨g, rfl⟩ := Kd.R_head h
  obtain ⟨l, h1, h2, _⟩ := rd_row h i (by omega)
  rw [List.getElem?_eq_getElem hi] at h1
  rw [Option.some.inj h1]
  exact h2
theorem row_at {w : World} {e base : Nat} {ok : Nat → Prop} {g n c : Nat} {rows : List Row} (h : Kd.R rowK e w base ok (.slice (some ⟨g, 0, none⟩) n c) rows) (i : Nat) (hi : i < n) (x : Row) (hx : rows[i]? = some x) : w.rangeAt g (i * 37) (nums .i64 x) := by
  obtain ⟨l, h1, _, h3⟩ := rd_row h i hi
  rw [hx] at h1
  rw [Option.some.inj h1]
  exact h3
theorem stepL {n k m : Nat} (h : n + (k + 1) = m) : n + 1 + k = m ∧ n < m := by omega
theorem lt_decL {n m : Nat} (h : n < m) : decide ((n : Int) < (m : Int)) = true := decide_eq_true (by omega)
theorem ge_decL {n m : Nat} (h : n + 0 = m) : decide ((n : Int) < (m : Int)) = false ∧ ¬ n < m := ⟨decide_eq_false (by omega), by omega⟩
theorem wrapL {n m : Nat} (h : n < m) (hm : m ≤ 100000) : wrap64 ((n : Int) + 1) = (n : Int) + 1 := by unfold wrap64; omega
set_option maxHeartbeats 4000000 in
set_option maxRecDepth 100000 in
theorem law_start (A0 : Option Addr) (c0 : Nat) (l0 : List S41) (A1 : Option Addr) (c1 : Nat) (l1 : List S41) (a2 a3 : Int) (w : World)
    (hr0 : Kd.C k41 w A0 l0.length l0) (hc0 : l0.length ≤ c0) (hr1 : Kd.C k41 w A1 l1.length l1) (hc1 : l1.length ≤ c1) (hb0 : l0.length * 24 ≤ 140737488351232) (hb1 : l1.length * 24 ≤ 140737488351232)
    (L : List Row) (er : Int) (he : rowsOf (opl (conv l0)) (opl (conv l1)) a2 = (L, er)) :
    Calls Try.prog 6 #[.slice A0 l0.length c0, .slice A1 l1.length c1, .int .i64 a2, .int .i64 a3] w fun e w' => e = .returned (.bool true) ∧ Below w.heap.size w w' := by
  have HR0 := Aside0.mk hr0
  have HR1 := Aside0.mk hr1
  have HE := Aside0.mk he
  have HL0 := Aside0.mk hb0
  have HL1 := Aside0.mk hb1
  have HC0 := Aside0.mk hc0
  have HC1 := Aside0.mk hc1
  have HF := Aside0.mk (rows_few he)
  clear hr0 hr1 he hb0 hb1 hc0 hc1
  go_enter Try.func6, Try.ntmps6
  go_wp2_with fail
  refine (ops_calls A0 c0 l0 _ HR0.out HC0.out HL0.out).mono ?_
  rintro e w1 ⟨B0, k0, rfl, hx0, hw1⟩
  have HX0 := Aside0.mk hx0
  have HW1 := Aside0.mk hw1
  clear hx0 hw1
  go_wp2_with fail
  refine (ops_calls A1 c1 l1 _ (Kd.C_below HR1.out HW1.out) HC1.out HL1.out).mono ?_
  rintro e w2 ⟨B1, k1, rfl, hx1, hw2⟩
  have HX02 := Aside0.mk (Kd.R_below HX0.out hw2)
  have HX12 := Aside0.mk hx1
  have HW2 := Aside0.mk (below_step HW1.out hw2)
  have hcall := rows_of_R (size := a2) HX02.out hx1
  rw [HE.out] at hcall
  have HC := Aside0.mk hcall
  clear hcall hx1 hw2 HX0 HW1
  go_wp2_with fail
  refine HC.out.mono ?_
  clear HC
  rintro e w3 ⟨v, rfl, hv, hw3⟩
  obtain ⟨V, cL, rfl⟩ := Kd.R_slice hv
  have HW3 := Aside0.mk (below_step HW2.out hw3)
  have HX03 := Aside0.mk (Kd.R_below HX02.out hw3)
  have HX13 := Aside0.mk (Kd.R_below HX12.out hw3)
  have HV3 := Aside0.mk hv
  have hcall := rows_calls A0 c0 l0 A1 c1 l1 a2 w3 (Kd.C_below HR0.out HW3.out) (Kd.C_below HR1.out HW3.out)
  rw [HE.out] at hcall
  have HC := Aside0.mk hcall
  clear hcall hv hw3 HX02 HX12 HW2
  simp only []
  go_wp2_with fail
  refine HC.out.mono ?_
  clear HC
  rintro e w4 ⟨vm, rfl, hvm, hw4⟩
  obtain ⟨V2, cM, rfl⟩ := Kd.R_slice hvm
  have HW4 := Aside0.mk (below_step HW3.out hw4)
  have HX04 := Aside0.mk (Kd.R_below HX03.out hw4)
  have HX14 := Aside0.mk (Kd.R_below HX13.out hw4)
  have HV4 := Aside0.mk (Kd.R_below HV3.out hw4)
  have HM4 := Aside0.mk hvm
  clear hvm hw4 HX03 HX13 HW3 HV3
  simp only []
  go_wp2_with fail
  refine (gangwaylaw13_num.calls er er _ rfl).mono ?_
  rintro e w5 ⟨rfl, ⟨n5, rfl⟩⟩
  go_wp2_with fail
  refine (check_calls B0 k0 (conv l0) B1 k1 (conv l1) a2 _ (Kd.R_reads' (Kd.R_drewN HX04.out _)).2.2 (Kd.R_reads' (Kd.R_drewN HX14.out _)).2.2 (L, er) HE.out).mono ?_
  rintro e w6 ⟨rfl, hw6⟩
  have HW6 := Aside0.mk (below_step (pw_below_drewN HW4.out _) hw6)
  have HX06 := Aside0.mk (Kd.R_below (Kd.R_drewN HX04.out _) hw6)
  have HX16 := Aside0.mk (Kd.R_below (Kd.R_drewN HX14.out _) hw6)
  have HV6 := Aside0.mk (Kd.R_below (Kd.R_drewN HV4.out _) hw6)
  have HM6 := Aside0.mk (Kd.R_below (Kd.R_drewN HM4.out _) hw6)
  clear hw6 HX04 HX14 HW4 HV4 HM4
  simp only []
  go_wp2_with fail
  refine (gangwaylaw13_num.calls er er _ rfl).mono ?_
  rintro e w7 ⟨rfl, ⟨n7, rfl⟩⟩
  go_wp2_with fail
  refine (same_calls B0 k0 A0 c0 l0 _ (Kd.R_drewN HX06.out _) (Kd.C_below HR0.out (pw_below_drewN HW6.out _)) HC0.out HL0.out).mono ?_
  rintro e w8 ⟨rfl, ⟨n8, rfl⟩⟩
  go_wp2_with fail
  refine (same_calls B1 k1 A1 c1 l1 _ (Kd.R_drewN HX16.out _) (Kd.C_below HR1.out (pw_below_drewN HW6.out _)) HC1.out HL1.out).mono ?_
  rintro e w9 ⟨rfl, ⟨n9, rfl⟩⟩
  go_wp2_with fail
  refine (knows_calls _).mono ?_
  rintro e w10 ⟨rfl, hw10⟩
  have HW := Aside0.mk (below_step (pw_below_drewN HW6.out _) hw10)
  have HV := Aside0.mk (Kd.R_below (Kd.R_drewN HV6.out _) hw10)
  have HM := Aside0.mk (Kd.R_below (Kd.R_drewN HM6.out _) hw10)
  clear hw10 HX06 HX16 HW6 HV6 HM6
  go_wp2
  go_loopg [15] L.length (fun kq i w' => ∃ n : Nat, n + kq = L.length ∧ i = .int .i64 (n : Int) ∧ Aside0 (Kd.R rowK 35 w' w2.heap.size (fun _ => True) (.slice V L.length cL) L) ∧ Aside0 (Kd.R rowK 53 w' w3.heap.size (fun _ => True) (.slice V2 L.length cM) L) ∧ Aside0 (Below w.heap.size w w'))
  case atStart => exact ⟨0, by omega, rfl, HV, HM, HW⟩
  case round =>
    clear HV HM HW
    obtain ⟨n, hn, rfl, HV, HM, HW⟩ := hrel
    cases gk with
    | zero =>
      obtain ⟨hltb, hnl⟩ := ge_decL hn
      have HLF := Aside0.mk (found_len (rows_37 HV.out rfl) a3)
      obtain ⟨F, hF⟩ : ∃ F, found L a3 = F := ⟨_, rfl⟩
      rw [hF] at HLF
      have HFF := Aside0.mk hF
      clear hF hn
      go_wp2_with fail
      have hcall := Cfa.find_calls _ L a3 _ _ wr HV.out HF.out
      rw [HFF.out] at hcall
      have HC := Aside0.mk hcall
      clear hcall
      refine HC.out.mono ?_
      clear HC
      rintro e w11 ⟨rfl, hw11⟩
      have HM11 := Aside0.mk (Kd.R_below HM.out hw11)
      have HW11 := Aside0.mk (below_step HW.out hw11)
      have hbx := box_new (tr := 35) (w := w11) (g := w11.heap.size) rfl HLF.out
      have HTH := Aside0.mk (there_row (blk_new w11 (.cells (nums .i64 zrow).toArray 35)) zrow_len)
      have HZ := Aside0.mk hbx
      clear hbx hw11 HM HW HV
      go_wp2_with (first
        | ((with_reducible refine gate_dst (N := 16) rfl ?_); refine alloc_rowW Cfa.rowTy rfl rfl ?_)
        | ((with_reducible refine gate_store (p := 16) rfl ?_); refine store_rowW Cfa.rowTy rfl (.tmp 16) (.tmp 94) rfl w11.heap.size 0 F.1 HLF.out rfl rfl HTH.out ?_
           generalize ((w11.alloc (.cells (nums .i64 zrow).toArray 35)).setCells w11.heap.size 0 (nums .i64 F.1)) = W1 at HZ ⊢))
      have hcall := find_calls _ L a3 _ _ W1 (Kd.R_below HM11.out HZ.out.2) HF.out
      rw [HFF.out] at hcall
      have HC := Aside0.mk hcall
      clear hcall
      refine HC.out.mono ?_
      clear HC
      rintro e w12 ⟨rfl, hw12⟩
      have HZ12 := Aside0.mk (blk_below HZ.out.1 hw12)
      have HW12 := Aside0.mk (below_step (below_step HW11.out HZ.out.2) hw12)
      have hby := box_new (tr := 53) (w := w12) (g := w12.heap.size) rfl HLF.out
      have HTH2 := Aside0.mk (there_row (blk_new w12 (.cells (nums .i64 zrow).toArray 53)) zrow_len)
      have HY := Aside0.mk hby
      clear hby hw12 HTH
      go_wp2_with (first
        | ((with_reducible refine gate_dst (N := 18) rfl ?_); refine alloc_rowW rowTy rfl rfl ?_)
        | ((with_reducible refine gate_store (p := 18) rfl ?_); refine store_rowW rowTy rfl (.tmp 18) (.tmp 100) rfl w12.heap.size 0 F.1 HLF.out rfl rfl HTH2.out ?_
           generalize ((w12.alloc (.cells (nums .i64 zrow).toArray 53)).setCells w12.heap.size 0 (nums .i64 F.1)) = W2 at HY ⊢
           have HZ2 := Aside0.mk (range_of_blk (blk_below HZ12.out HY.out.2))
           have HY2 := Aside0.mk (range_of_blk HY.out.1)
           have HW2 := Aside0.mk (below_step HW12.out HY.out.2))
        | ((with_reducible refine gate_dst (N := 106) rfl ?_); refine gate_guard (by rfl) (load_rowW Cfa.rowTy rfl (.tmp 16) rfl w11.heap.size 0 rfl F.1 HLF.out HZ2.out ?_))
        | ((with_reducible refine gate_dst (N := 107) rfl ?_); refine gate_guard (by rfl) (load_rowW rowTy rfl (.tmp 18) rfl w12.heap.size 0 rfl F.1 HLF.out HY2.out ?_)))
      refine (same_row F.1 HLF.out _).mono ?_
      rintro e w13 ⟨rfl, hw13⟩
      have HW13 := Aside0.mk (below_step HW2.out hw13)
      clear hw13
      go_wp2
      go_ret
      exact ⟨rfl, HW13.out⟩
    | succ gk =>
      obtain ⟨hn2, hnl⟩ := stepL hn
      have hltb := lt_decL hnl
      have hw1 := wrapL hnl HF.out
      obtain ⟨ad, rfl⟩ : ∃ ad, V = some ad := by
        obtain ⟨ad, e, _⟩ := (Kd.R_reads' HV.out).2.2.2.2 (Nat.lt_of_le_of_lt (Nat.zero_le _) hnl)
        exact ⟨ad, e⟩
      obtain ⟨g, rfl⟩ := Kd.R_head HV.out
      obtain ⟨ad, rfl⟩ : ∃ ad, V2 = some ad := by
        obtain ⟨ad, e, _⟩ := (Kd.R_reads' HM.out).2.2.2.2 (Nat.lt_of_le_of_lt (Nat.zero_le _) hnl)
        exact ⟨ad, e⟩
      obtain ⟨gm, rfl⟩ := Kd.R_head HM.out
      obtain ⟨l, hl, hl37, hra⟩ := rd_row HV.out n hnl
      have HRA := Aside0.mk hra
      have HRB := Aside0.mk (row_at HM.out n hnl l hl)
      have HL37 := Aside0.mk hl37
      have hix := row_ix Cfa.rowTy g n L.length cL hnl
      have hiy := row_ix rowTy gm n L.length cM hnl
      have HN2 := Aside0.mk hn2
      clear hl hl37 hra hn hn2
      go_wp2
      refine start_ (n := 10) (S := fun u => Aside0 (u.rangeAt g (n * 37) (nums .i64 l)) ∧ Aside0 (u.rangeAt gm (n * 37) (nums .i64 l))) (ds := [8]) #[false, false, false, false, false, false, false, false, false, false] (by kernel_rfl) rfl rfl ?_ (fun hHeld => ?_)
      case refine_1 => exact ⟨⟨(World.rangeAt_drew _ _ _ _).2 HRA.out⟩, ⟨(World.rangeAt_drew _ _ _ _).2 HRB.out⟩⟩
      refine pure_ (i := 0) (N := some 80) (v := ?_) (a' := ?_) #[true, false, false, false, false, false, false, false, false, false] rfl rfl (by kernel_rfl) (fun _ _ _ h => h) (Or.inl ⟨by rfl, ?_⟩) ?_ ?_
      rotate_left
      · intro u
        go_simp
        with_reducible rfl
      rotate_left
      · simp only [Act.put, List.setIfInBounds_toArray, List.set_cons_zero, List.set_cons_succ, i64_w, i32_w]
        rfl
      refine pure_ (i := 1) (N := some 81) (v := ?_) (a' := ?_) #[true, true, false, false, false, false, false, false, false, false] rfl rfl (by kernel_rfl) (fun _ _ _ h => h) (Or.inl ⟨by rfl, ?_⟩) ?_ ?_
      rotate_left
      · intro u
        go_simp
        with_reducible rfl
      rotate_left
      · simp only [Act.put, List.setIfInBounds_toArray, List.set_cons_zero, List.set_cons_succ, i64_w, i32_w]
        rfl
      refine pure_ (i := 2) (N := some 82) (v := ?_) (a' := ?_) #[true, true, true, false, false, false, false, false, false, false] rfl rfl (by kernel_rfl) (fun _ _ _ h => h) (Or.inl ⟨by rfl, ?_⟩) ?_ ?_
      rotate_left
      · intro u
        go_simp
        with_reducible rfl
      rotate_left
      · simp only [Act.put, List.setIfInBounds_toArray, List.set_cons_zero, List.set_cons_succ, i64_w, i32_w]
        rfl
      refine take_ (i := 3) (N := some 83) (v := .agg (nums .i64 l).toArray) (a' := ?_) #[true, true, true, true, false, false, false, false, false, false] rfl rfl (by kernel_rfl) (fun _ _ _ h => h) (by first | exact Cfa.load_row_y (by rfl) (.tmp 82) rfl g (n * 37) rfl l HL37.out (fun u hu => hu.1.out) | exact load_row_y (by rfl) (.tmp 86) rfl gm (n * 37) rfl l HL37.out (fun u hu => hu.2.out)) hHeld ?_ ?_
      rotate_left
      · simp only [Act.put, List.setIfInBounds_toArray, List.set_cons_zero, List.set_cons_succ, i64_w, i32_w]
        rfl
      refine pure_ (i := 4) (N := some 84) (v := ?_) (a' := ?_) #[true, true, true, true, true, false, false, false, false, false] rfl rfl (by kernel_rfl) (fun _ _ _ h => h) (Or.inl ⟨by rfl, ?_⟩) ?_ ?_
      rotate_left
      · intro u
        go_simp
        with_reducible rfl
      rotate_left
      · simp only [Act.put, List.setIfInBounds_toArray, List.set_cons_zero, List.set_cons_succ, i64_w, i32_w]
        rfl
      refine pure_ (i := 5) (N := some 85) (v := ?_) (a' := ?_) #[true, true, true, true, true, true, false, false, false, false] rfl rfl (by kernel_rfl) (fun _ _ _ h => h) (Or.inl ⟨by rfl, ?_⟩) ?_ ?_
      rotate_left
      · intro u
        go_simp
        with_reducible rfl
      rotate_left
      · simp only [Act.put, List.setIfInBounds_toArray, List.set_cons_zero, List.set_cons_succ, i64_w, i32_w]
        rfl
      refine pure_ (i := 6) (N := some 86) (v := ?_) (a' := ?_) #[true, true, true, true, true, true, true, false, false, false] rfl rfl (by kernel_rfl) (fun _ _ _ h => h) (Or.inl ⟨by rfl, ?_⟩) ?_ ?_
      rotate_left
      · intro u
        go_simp
        with_reducible rfl
      rotate_left
      · simp only [Act.put, List.setIfInBounds_toArray, List.set_cons_zero, List.set_cons_succ, i64_w, i32_w]
        rfl
      refine take_ (i := 7) (N := some 87) (v := .agg (nums .i64 l).toArray) (a' := ?_) #[true, true, true, true, true, true, true, true, false, false] rfl rfl (by kernel_rfl) (fun _ _ _ h => h) (by first | exact Cfa.load_row_y (by rfl) (.tmp 82) rfl g (n * 37) rfl l HL37.out (fun u hu => hu.1.out) | exact load_row_y (by rfl) (.tmp 86) rfl gm (n * 37) rfl l HL37.out (fun u hu => hu.2.out)) hHeld ?_ ?_
      rotate_left
      · simp only [Act.put, List.setIfInBounds_toArray, List.set_cons_zero, List.set_cons_succ, i64_w, i32_w]
        rfl
      refine last_ (i := 8) (N := some 88) #[true, true, true, true, true, true, true, true, true, false] rfl rfl (by kernel_rfl) (by decide) (fun K hK => ?_)
      refine goes_ Try.func18 (by kernel_rfl) rfl #[.agg (nums .i64 l).toArray, .agg (nums .i64 l).toArray] (by rfl) rfl rfl (by (try simp only [List.map_toArray, List.map_cons, List.map_nil]); first | done | rfl) ?_
      refine (same_row l HL37.out _).mono ?_
      rintro e w11 ⟨rfl, hw11⟩
      refine ⟨_, rfl, ?_⟩
      have HV11 := Aside0.mk (Kd.R_below (Kd.R_drew HV.out) hw11)
      have HM11 := Aside0.mk (Kd.R_below (Kd.R_drew HM.out) hw11)
      have HW11 := Aside0.mk (below_step (below_drew HW.out) hw11)
      clear hw11
      refine hK.out _ _ ?_
      clear hK K
      refine norm_ (a' := ?_) ?_ ?_
      rotate_left
      · show Act.put _ (some 88) _ = _
        simp only [Act.put, List.setIfInBounds_toArray, List.set_cons_zero, List.set_cons_succ, i64_w, i32_w]
        rfl
      refine pure_ (i := 9) (N := some 89) (v := ?_) (a' := ?_) #[true, true, true, true, true, true, true, true, true, true] rfl rfl (by kernel_rfl) (fun _ _ _ h => h) (Or.inl ⟨by rfl, ?_⟩) ?_ ?_
      rotate_left
      · intro u
        go_simp
        with_reducible rfl
      rotate_left
      · simp only [Act.put, List.setIfInBounds_toArray, List.set_cons_zero, List.set_cons_succ, i64_w, i32_w]
        rfl
      refine done_ (by kernel_rfl) ?_
      go_wp2
      go_roundg gk
      case measure => omega
      case rel => exact ⟨n + 1, HN2.out, by go_num, HV11, HM11, HW11⟩
theorem law_calls (A0 : Option Addr) (c0 : Nat) (l0 : List S41) (A1 : Option Addr) (c1 : Nat) (l1 : List S41) (a2 a3 : Int) (w : World)
    (hr0 : Kd.C k41 w A0 l0.length l0) (hc0 : l0.length ≤ c0) (hr1 : Kd.C k41 w A1 l1.length l1) (hc1 : l1.length ≤ c1) (hb : l0.length * 24 ≤ 140737488351232 ∧ l1.length * 24 ≤ 140737488351232) :
    Calls Try.prog 6 #[.slice A0 l0.length c0, .slice A1 l1.length c1, .int .i64 a2, .int .i64 a3] w fun e w' => e = .returned (.bool true) ∧ Below w.heap.size w w' :=
  law_start A0 c0 l0 A1 c1 l1 a2 a3 w hr0 hc0 hr1 hc1 hb.1 hb.2 _ _ (Prod.eta _).symm
end Go.Proofs.Ytngddlihppomhaa.CfaR
