/- CfaTogether: the law's code answers true. -/
import Derived.Test.YtngddlihppomhaaCfaRiseWalk
import Derived.Test.YtngddlihppomhaaCfaLaw2
import Derived.Test.YtngddlihppomhaaCfaEq
namespace Go.Proofs.Ytngddlihppomhaa.Cfa
set_option linter.unusedVariables false
set_option linter.unusedSimpArgs false
open Go.RowKit Go.Proofs.Ytngddlihppomhaa.G Go.Proofs.YtngddlihppomhaaW.PrintWords Go.Proofs.YtngddlihppomhaaW.PrintLast Go.Proofs.YtngddlihppomhaaW.PrintMore
theorem n_step {n k m : Nat} (h : n + (k + 1) = m) : n + 1 + k = m := by omega
theorem n_lt_dec {n m : Nat} (h : n + 1 < m) : decide ((n : Int) + 1 < (m : Int)) = true := decide_eq_true (by omega)
theorem n_ge_dec {n m : Nat} (h : m ≤ n + 1) : decide ((n : Int) + 1 < (m : Int)) = false := decide_eq_false (by omega)
theorem n_wrap {n m : Nat} (h : n < m) (hm : m ≤ 100000) : wrap64 ((n : Int) + 1) = (n : Int) + 1 := by unfold wrap64; omega
theorem n_last {n m : Nat} (h0 : n < m) (h1 : m ≤ n + 1) (hm : m ≤ 100000) : m - 1 = n ∧ IntKind.i64.wrap ((m : Int) - 1) = (n : Int) := ⟨by omega, by rw [IntKind.wrap_i64]; omega⟩
/-- A row of ops of the call's own, behind another one. -/
theorem kOp_KM {w : World} {base : Nat} {x : S40} {cs : List Value} (h : k40.K w x cs) : k40.M w base (fun _ => False) x cs := by
  rw [k40_open h]
  exact k40_mkM w base _ x
theorem opl_append (a b : List S40) : opl (a ++ b) = opl a ++ opl b := by simp [opl]
set_option maxHeartbeats 4000000 in
set_option maxRecDepth 100000 in
theorem tog_start (A0 : Option Addr) (c0 : Nat) (l0 : List S41) (A1 : Option Addr) (c1 : Nat) (l1 : List S41) (A2 : Option Addr) (c2 : Nat) (l2 : List S41) (a3 : Int) (w : World)
    (hr0 : Kd.C k41 w A0 l0.length l0) (hc0 : l0.length ≤ c0) (hr1 : Kd.C k41 w A1 l1.length l1) (hc1 : l1.length ≤ c1) (hr2 : Kd.C k41 w A2 l2.length l2) (hc2 : l2.length ≤ c2) (hb : l0.length + l1.length + l2.length ≤ 1048576)
    (L M : List Row) (er fr : Int) (he : rowsOf (opl (conv l0)) (opl (conv l1)) a3 = (L, er)) (hf : rowsOf (opl (conv l0)) (opl (conv l1) ++ opl (conv l2)) a3 = (M, fr)) :
    Calls Try.prog 5 #[.slice A0 l0.length c0, .slice A1 l1.length c1, .slice A2 l2.length c2, .int .i64 a3] w fun e w' => e = .returned (.bool true) ∧ Below w.heap.size w w' := by
  have HR0 := Aside0.mk hr0
  have HR1 := Aside0.mk hr1
  have HR2 := Aside0.mk hr2
  have HE := Aside0.mk he
  have HF := Aside0.mk hf
  have HLIM := Aside0.mk hb
  clear hr0 hr1 hr2 he hf hb
  go_enter Try.func5, Try.ntmps5
  go_wp2_with fail
  refine (ops_calls A0 c0 l0 _ HR0.out hc0 (by have := HLIM.out; omega)).mono ?_
  rintro e w1 ⟨B0, k0, rfl, hx0, hw1⟩
  go_wp2_with fail
  refine (ops_calls A1 c1 l1 _ (Kd.C_below HR1.out hw1) hc1 (by have := HLIM.out; omega)).mono ?_
  rintro e w2 ⟨B1, k1, rfl, hx1, hw2⟩
  have HB2 := Aside0.mk (below_step hw1 hw2)
  have hx0' := Kd.R_below hx0 hw2
  have hcall := rows_of_R (size := a3) hx0' hx1
  rw [HE.out] at hcall
  have HC := Aside0.mk hcall
  clear hx0 hx1 hx0' hw1 hw2 hcall
  go_wp2_with fail
  refine HC.out.mono ?_
  clear HC
  rintro e w3 ⟨v, rfl, hv, hw3⟩
  have HB3 := Aside0.mk (below_step HB2.out hw3)
  have HV := Aside0.mk hv
  clear hv hw3 HB2
  simp only []
  go_wp2_with fail
  refine (ops_calls A0 c0 l0 _ (Kd.C_below HR0.out HB3.out) hc0 (by have := HLIM.out; omega)).mono ?_
  rintro e w4 ⟨B2, k2, rfl, hx2, hw4⟩
  have HB4 := Aside0.mk (below_step HB3.out hw4)
  have HV4 := Aside0.mk (Kd.R_below HV.out hw4)
  have HX2 := Aside0.mk hx2
  clear hx2 hw4 HV HB3
  go_wp2_with fail
  refine (ops_calls A1 c1 l1 _ (Kd.C_below HR1.out HB4.out) hc1 (by have := HLIM.out; omega)).mono ?_
  rintro e w5 ⟨B3, k3, rfl, hx3, hw5⟩
  have HW45 := Aside0.mk hw5
  have HX3 := Aside0.mk hx3
  clear hx3 hw5
  go_wp2_with fail
  refine (ops_calls A2 c2 l2 _ (Kd.C_below HR2.out (below_step HB4.out HW45.out)) hc2 (by have := HLIM.out; omega)).mono ?_
  rintro e w6 ⟨B4, k4, rfl, hx4, hw6⟩
  have HW46 := Aside0.mk (below_step HW45.out hw6)
  have HX36 := Aside0.mk (Kd.R_below HX3.out hw6)
  have HX4 := Aside0.mk hx4
  clear hx4 hw6 HX3 HW45
  simp only []
  go_wp2_with (((with_reducible refine gate_builtin (b := .append) (xs := #[.tmp 27, .tmp 29]) rfl ?_); at_builtin; refine Kd.R_append_rows k40 (Rr := k40.K w6) (w0 := w4) w4.heap.size rfl (.tmp 27) (.tmp 29) 27 40 _ 24 rfl Try.underlying27 info40 rfl (by decide) (by decide) (.slice B3 (conv l1).length k3) (conv l1) (conv l2) B4 (conv l2).length k4 (fun _ => True) (fun _ => False) rfl rfl HX36.out (Kd.R_reads' HX4.out).2.2 (fun x cs h => kOp_KM h) (fun _ h => h.elim) (fun _ _ => trivial) HW46.out HW46.out.size (by rw [conv_length, conv_length]; have := HLIM.out; omega) ?_); intro v7 w7 ho7 hb7 hg7 hat7; have HX7 := Aside0.mk ho7; have HW47 := Aside0.mk hb7; clear ho7 hb7 hg7 hat7 HW46 HX36 HX4)
  obtain ⟨B7, k7, rfl⟩ := Kd.R_slice HX7.out
  have hcall := rows_of_R (size := a3) (Kd.R_below HX2.out HW47.out) HX7.out
  rw [opl_append, HF.out] at hcall
  have HC := Aside0.mk hcall
  clear hcall
  refine HC.out.mono ?_
  clear HC
  rintro e w8 ⟨vm, rfl, hvm, hw8⟩
  have HW48 := Aside0.mk (below_step HW47.out hw8)
  have HV8 := Aside0.mk (Kd.R_below HV4.out HW48.out)
  have HM8 := Aside0.mk hvm
  have HB8 := Aside0.mk (below_step HB4.out HW48.out)
  clear hvm hw8 HX2 HX7 HV4 HW47 HW48 HB4
  simp only []
  by_cases her : er = 0
  · subst her
    by_cases hfr : fr = 0
    · subst hfr
      obtain ⟨hp, hlm, hfL, hfM, heq, hlast⟩ := together HE.out HF.out
      have HEQ := Aside0.mk heq
      have HLAST := Aside0.mk hlast
      clear heq hlast
      obtain ⟨V, cL, rfl⟩ := Kd.R_slice HV8.out
      obtain ⟨ad, rfl⟩ : ∃ ad, V = some ad := by
        obtain ⟨ad, e, _⟩ := (Kd.R_reads' HV8.out).2.2.2.2 hp
        exact ⟨ad, e⟩
      obtain ⟨g, rfl⟩ := Kd.R_head HV8.out
      obtain ⟨V2, cM, rfl⟩ := Kd.R_slice HM8.out
      obtain ⟨ad, rfl⟩ : ∃ ad, V2 = some ad := by
        obtain ⟨ad, e, _⟩ := (Kd.R_reads' HM8.out).2.2.2.2 (Nat.lt_of_lt_of_le hp hlm)
        exact ⟨ad, e⟩
      obtain ⟨gm, rfl⟩ := Kd.R_head HM8.out
      have hlt1 : ¬ M.length < L.length := by omega
      have hlt2 : decide ((M.length : Int) < (L.length : Int)) = false := decide_eq_false (by omega)
      go_wp2_with fail
      refine (gangwaylaw13_num.calls 0 0 _ rfl).mono ?_
      rintro e w9 ⟨rfl, ⟨n9, rfl⟩⟩
      go_wp2_with fail
      refine (gangwaylaw13_num.calls 0 0 _ rfl).mono ?_
      rintro e w10 ⟨rfl, ⟨n10, rfl⟩⟩
      go_wp2_with fail
      refine (knows_calls _).mono ?_
      rintro e w11 ⟨rfl, hw11⟩
      have HV11 := Aside0.mk (Kd.R_below (Kd.R_drewN HV8.out _) hw11)
      have HM11 := Aside0.mk (Kd.R_below (Kd.R_drewN HM8.out _) hw11)
      have HB11 := Aside0.mk (below_step (pw_below_drewN HB8.out _) hw11)
      clear hw11 HV8 HM8 HB8
      go_wp2
      go_loopg [13] L.length (fun kq i w' => ∃ n : Nat, n + kq = L.length ∧ n + 1 ≤ L.length ∧ i = .int .i64 (n : Int) ∧ Aside0 (Kd.R rowK 35 w' w2.heap.size (fun _ => True) (.slice (some ⟨g, 0, none⟩) L.length cL) L) ∧ Aside0 (Kd.R rowK 35 w' w7.heap.size (fun _ => True) (.slice (some ⟨gm, 0, none⟩) M.length cM) M) ∧ Aside0 (Below w.heap.size w w'))
      case atStart => exact ⟨0, by omega, by omega, rfl, HV11, HM11, HB11⟩
      case round =>
        clear HV11 HM11 HB11
        obtain ⟨n, hn, hn1, rfl, HV, HM, HB⟩ := hrel
        have hw1 := n_wrap (show n < L.length from hn1) hfL
        rcases Nat.lt_or_ge (n + 1) L.length with hlt | hge
        · have hltb := n_lt_dec hlt
          have hnl : n < L.length := Nat.lt_of_succ_lt hlt
          have hnm : n < M.length := Nat.lt_of_lt_of_le hnl hlm
          obtain ⟨l, hl, hl37, hra⟩ := rd_row HV.out n hnl
          obtain ⟨m, hm, hm37, hrb⟩ := rd_row HM.out n hnm
          have hlm2 : l = m := by
            have := HEQ.out n hlt
            rw [hl, hm] at this
            exact Option.some.inj this
          subst hlm2
          have hix := row_ix rowTy g n L.length cL hnl
          have hiy := row_ix rowTy gm n M.length cM hnm
          have HRA := Aside0.mk hra
          have HRB := Aside0.mk hrb
          have HN := Aside0.mk hn
          have HL37 := Aside0.mk hl37
          clear hra hrb hl hm hm37 hl37 hn hn1
          cases gk with
          | zero => exact absurd (show n = L.length from HN.out) (Nat.ne_of_lt hnl)
          | succ gk =>
            have HN2 := Aside0.mk (n_step HN.out)
            have HLT := Aside0.mk (show n + 1 + 1 ≤ L.length from hlt)
            go_wp2
            refine start_ (n := 9) (S := fun u => Aside0 (u.rangeAt g (n * 37) (nums .i64 l)) ∧ Aside0 (u.rangeAt gm (n * 37) (nums .i64 l))) (ds := []) #[false, false, false, false, false, false, false, false, false] (by kernel_rfl) rfl rfl ?_ (fun hHeld => ?_)
            case refine_1 => exact ⟨⟨(World.rangeAt_drew _ _ _ _).2 HRA.out⟩, ⟨(World.rangeAt_drew _ _ _ _).2 HRB.out⟩⟩
            refine pure_ (i := 0) (N := some 70) (v := ?_) (a' := ?_) #[true, false, false, false, false, false, false, false, false] rfl rfl (by kernel_rfl) (fun _ _ _ h => h) (Or.inl ⟨by rfl, ?_⟩) ?_ ?_
            rotate_left
            · intro u
              go_simp
              with_reducible rfl
            rotate_left
            · simp only [Act.put, List.setIfInBounds_toArray, List.set_cons_zero, List.set_cons_succ, i64_w, i32_w]
              rfl
            refine pure_ (i := 1) (N := some 71) (v := ?_) (a' := ?_) #[true, true, false, false, false, false, false, false, false] rfl rfl (by kernel_rfl) (fun _ _ _ h => h) (Or.inl ⟨by rfl, ?_⟩) ?_ ?_
            rotate_left
            · intro u
              go_simp
              with_reducible rfl
            rotate_left
            · simp only [Act.put, List.setIfInBounds_toArray, List.set_cons_zero, List.set_cons_succ, i64_w, i32_w]
              rfl
            refine pure_ (i := 2) (N := some 72) (v := ?_) (a' := ?_) #[true, true, true, false, false, false, false, false, false] rfl rfl (by kernel_rfl) (fun _ _ _ h => h) (Or.inl ⟨by rfl, ?_⟩) ?_ ?_
            rotate_left
            · intro u
              go_simp
              with_reducible rfl
            rotate_left
            · simp only [Act.put, List.setIfInBounds_toArray, List.set_cons_zero, List.set_cons_succ, i64_w, i32_w]
              rfl
            refine take_ (i := 3) (N := some 73) (v := .agg (nums .i64 l).toArray) (a' := ?_) #[true, true, true, true, false, false, false, false, false] rfl rfl (by kernel_rfl) (fun _ _ _ h => h) (by first | exact load_row_y (by rfl) (.tmp 72) rfl g (n * 37) rfl l HL37.out (fun u hu => hu.1.out) | exact load_row_y (by rfl) (.tmp 76) rfl gm (n * 37) rfl l HL37.out (fun u hu => hu.2.out)) hHeld ?_ ?_
            rotate_left
            · simp only [Act.put, List.setIfInBounds_toArray, List.set_cons_zero, List.set_cons_succ, i64_w, i32_w]
              rfl
            refine pure_ (i := 4) (N := some 74) (v := ?_) (a' := ?_) #[true, true, true, true, true, false, false, false, false] rfl rfl (by kernel_rfl) (fun _ _ _ h => h) (Or.inl ⟨by rfl, ?_⟩) ?_ ?_
            rotate_left
            · intro u
              go_simp
              with_reducible rfl
            rotate_left
            · simp only [Act.put, List.setIfInBounds_toArray, List.set_cons_zero, List.set_cons_succ, i64_w, i32_w]
              rfl
            refine pure_ (i := 5) (N := some 75) (v := ?_) (a' := ?_) #[true, true, true, true, true, true, false, false, false] rfl rfl (by kernel_rfl) (fun _ _ _ h => h) (Or.inl ⟨by rfl, ?_⟩) ?_ ?_
            rotate_left
            · intro u
              go_simp
              with_reducible rfl
            rotate_left
            · simp only [Act.put, List.setIfInBounds_toArray, List.set_cons_zero, List.set_cons_succ, i64_w, i32_w]
              rfl
            refine pure_ (i := 6) (N := some 76) (v := ?_) (a' := ?_) #[true, true, true, true, true, true, true, false, false] rfl rfl (by kernel_rfl) (fun _ _ _ h => h) (Or.inl ⟨by rfl, ?_⟩) ?_ ?_
            rotate_left
            · intro u
              go_simp
              with_reducible rfl
            rotate_left
            · simp only [Act.put, List.setIfInBounds_toArray, List.set_cons_zero, List.set_cons_succ, i64_w, i32_w]
              rfl
            refine take_ (i := 7) (N := some 77) (v := .agg (nums .i64 l).toArray) (a' := ?_) #[true, true, true, true, true, true, true, true, false] rfl rfl (by kernel_rfl) (fun _ _ _ h => h) (by first | exact load_row_y (by rfl) (.tmp 72) rfl g (n * 37) rfl l HL37.out (fun u hu => hu.1.out) | exact load_row_y (by rfl) (.tmp 76) rfl gm (n * 37) rfl l HL37.out (fun u hu => hu.2.out)) hHeld ?_ ?_
            rotate_left
            · simp only [Act.put, List.setIfInBounds_toArray, List.set_cons_zero, List.set_cons_succ, i64_w, i32_w]
              rfl
            refine pure_ (i := 8) (N := some 78) (v := .bool false) (a' := ?_) #[true, true, true, true, true, true, true, true, true] rfl rfl (by kernel_rfl) (fun _ _ _ h => h) (Or.inl ⟨by rfl, fun u => by rw [neq_row_run (.tmp 73) (.tmp 77) rfl l l HL37.out HL37.out rfl rfl u, decide_eq_true rfl]; rfl⟩) ?_ ?_
            rotate_left
            · simp only [Act.put, List.setIfInBounds_toArray, List.set_cons_zero, List.set_cons_succ, i64_w, i32_w]
              rfl
            refine done_ (by kernel_rfl) ?_
            go_wp2
            go_roundg gk
            case measure => omega
            case rel => exact ⟨n + 1, HN2.out, HLT.out, by go_num, ⟨Kd.R_drew HV.out⟩, ⟨Kd.R_drew HM.out⟩, ⟨below_drew HB.out⟩⟩
        · have hltb := n_ge_dec hge
          have hnl : n < L.length := hn1
          have hnm : n < M.length := Nat.lt_of_lt_of_le hnl hlm
          obtain ⟨hne, g2⟩ := n_last hnl hge hfL
          obtain ⟨l, hl, hl37, f0, _⟩ := row_cells HV.out n hnl
          obtain ⟨m, hm, hm37, f1, _⟩ := row_cells HM.out n hnm
          have hat : at0 l = at0 m := HLAST.out l m (by rw [hne]; exact hl) (by rw [hne]; exact hm)
          rw [hat] at f0
          have hix := row_ix rowTy g n L.length cL hnl
          have hiy := row_ix rowTy gm n M.length cM hnm
          have g3 : ¬ n + 1 < L.length := Nat.not_lt.2 hge
          clear hl hm hl37 hm37 hat hne hn hn1 hge
          generalize at0 m = x0 at *
          go_wp2
          go_quiet (fail)
          go_wp2
          go_ret
          exact ⟨rfl, pw_below_drewN HB.out _⟩
    · obtain ⟨d1, d2⟩ := may_ne hfr
      clear hfr
      go_wp2_with (first
        | ((with_reducible refine (gangwaylaw13_num.calls 0 0 _ rfl).mono ?_); rintro e w9 ⟨rfl, ⟨n9, rfl⟩⟩)
        | ((with_reducible refine (gangwaylaw13_num.calls er er _ rfl).mono ?_); rintro e w9 ⟨rfl, ⟨n9, rfl⟩⟩)
        | ((with_reducible refine (gangwaylaw13_num.calls fr fr _ rfl).mono ?_); rintro e w9 ⟨rfl, ⟨n9, rfl⟩⟩)
        | ((with_reducible refine (knows_calls _).mono ?_); rintro e w9 ⟨rfl, hw9⟩))
      go_ret
      exact ⟨rfl, below_step (pw_below_drewN HB8.out _) hw9⟩
  · have hfr : fr ≠ 0 := by
      have h1 : (rowsOf (opl (conv l0)) (opl (conv l1)) a3).2 ≠ 0 := by rw [HE.out]; exact her
      have h2 := rows_longer (c := opl (conv l2)) h1
      rw [HF.out] at h2
      exact h2
    obtain ⟨d1, d2⟩ := may_ne hfr
    obtain ⟨d3, d4⟩ := may_ne her
    clear hfr her
    go_wp2_with (first
      | ((with_reducible refine (gangwaylaw13_num.calls 0 0 _ rfl).mono ?_); rintro e w9 ⟨rfl, ⟨n9, rfl⟩⟩)
      | ((with_reducible refine (gangwaylaw13_num.calls er er _ rfl).mono ?_); rintro e w9 ⟨rfl, ⟨n9, rfl⟩⟩)
      | ((with_reducible refine (gangwaylaw13_num.calls fr fr _ rfl).mono ?_); rintro e w9 ⟨rfl, ⟨n9, rfl⟩⟩)
      | ((with_reducible refine (knows_calls _).mono ?_); rintro e w9 ⟨rfl, hw9⟩))
    go_ret
    exact ⟨rfl, below_step (pw_below_drewN HB8.out _) hw9⟩
theorem together_calls (A0 : Option Addr) (c0 : Nat) (l0 : List S41) (A1 : Option Addr) (c1 : Nat) (l1 : List S41) (A2 : Option Addr) (c2 : Nat) (l2 : List S41) (a3 : Int) (w : World)
    (hr0 : Kd.C k41 w A0 l0.length l0) (hc0 : l0.length ≤ c0) (hr1 : Kd.C k41 w A1 l1.length l1) (hc1 : l1.length ≤ c1) (hr2 : Kd.C k41 w A2 l2.length l2) (hc2 : l2.length ≤ c2) (hb : l0.length + l1.length + l2.length ≤ 1048576) :
    Calls Try.prog 5 #[.slice A0 l0.length c0, .slice A1 l1.length c1, .slice A2 l2.length c2, .int .i64 a3] w fun e w' => e = .returned (.bool true) ∧ Below w.heap.size w w' :=
  tog_start A0 c0 l0 A1 c1 l1 A2 c2 l2 a3 w hr0 hc0 hr1 hc1 hr2 hc2 hb _ _ _ _ (Prod.eta _).symm (Prod.eta _).symm
end Go.Proofs.Ytngddlihppomhaa.Cfa
