/- CfaRise: the law's code answers true. -/
import Derived.Test.YtngddlihppomhaaCfaKnows
import Derived.Test.YtngddlihppomhaaCfaLaw
import Derived.Test.YtngddlihppomhaaGf11
namespace Go.Proofs.Ytngddlihppomhaa.Cfa
set_option linter.unusedVariables false
set_option linter.unusedSimpArgs false
open Go.RowKit Go.Proofs.Ytngddlihppomhaa.G Go.Proofs.YtngddlihppomhaaW.PrintWords Go.Proofs.YtngddlihppomhaaW.PrintLast Go.Proofs.YtngddlihppomhaaW.PrintMore

def conv (l : List S41) : List S40 := l.map fun o => ⟨o.f0, o.f1, o.f2⟩
theorem conv_length (l : List S41) : (conv l).length = l.length := by simp [conv]
theorem ops_l0 (l : List S41) (hl : l.length < 5864062014805) (d : Nat) : ∀ (k n : Nat), n ≤ l.length → l.length - n = d → d < k → gangwaylaw13_Ops.l0 k l (conv (l.take n)) (n : Int) = some (conv l) := by
  induction d with
  | zero =>
    intro k n h1 h2 h3
    obtain ⟨k, rfl⟩ : ∃ m, k = m + 1 := ⟨k - 1, by omega⟩
    simp only [gangwaylaw13_Ops.l0]
    rw [if_neg (by omega), List.take_of_length_le (by omega)]
  | succ d ih =>
    intro k n h1 h2 h3
    obtain ⟨k, rfl⟩ : ∃ m, k = m + 1 := ⟨k - 1, by omega⟩
    simp only [gangwaylaw13_Ops.l0]
    have hlen : (conv (l.take n)).length = n := by rw [conv_length, List.length_take]; omega
    rw [if_pos (by omega), if_pos (by omega), if_pos (by omega)]
    have hw : wrap64 ((n : Int) + 1) = ((n + 1 : Nat) : Int) := by unfold wrap64; omega
    have hrd : rd_T41 l (n : Int) = l[n] := by simp [rd_T41, List.getD, show n < l.length by omega]
    have htk : conv (l.take n) ++ [(⟨(rd_T41 l n).f0, (rd_T41 l n).f1, (rd_T41 l n).f2⟩ : S40)] = conv (l.take (n + 1)) := by
      rw [List.take_succ_eq_append_getElem (by omega), hrd]
      unfold conv
      rw [List.map_append]
      rfl
    rw [hw, htk]
    exact ih k (n + 1) (by omega) (by omega) (by omega)
theorem ops_f (l : List S41) (hl : l.length * 24 ≤ 140737488351232) : gangwaylaw13_Ops.f (l.length + 1) l = some (conv l) := ops_l0 l (by omega) l.length (l.length + 1) 0 (by omega) (by omega) (by omega)
theorem ops_calls (A : Option Addr) (c : Nat) (l : List S41) (w : World) (hr : Kd.C k41 w A l.length l) (hc : l.length ≤ c) (hl : l.length * 24 ≤ 140737488351232) :
    Calls Try.prog 11 #[.slice A l.length c] w fun e w' => ∃ A' c', e = .returned (.slice A' (conv l).length c') ∧ Kd.R k40 40 w' w.heap.size (fun _ => True) (.slice A' (conv l).length c') (conv l) ∧ Below w.heap.size w w' := by
  refine (gangwaylaw13_Ops.calls (l.length + 1) A c l (conv l) w hr hc (ops_f l hl)).mono ?_
  rintro e w' ⟨v, rfl, h, hb⟩
  obtain ⟨A', c', rfl⟩ := Kd.R_slice h
  exact ⟨A', c', rfl, h, hb⟩
/-- The law's first calls: its ops, twice, and the table. -/
theorem rows_of_R {w : World} {b0 b1 : Nat} {ok0 ok1 : Nat → Prop} {A0 A1 : Option Addr} {c0 c1 : Nat} {l0 l1 : List S40} {size : Int} (h0 : Kd.R k40 40 w b0 ok0 (.slice A0 l0.length c0) l0) (h1 : Kd.R k40 40 w b1 ok1 (.slice A1 l1.length c1) l1) :
    Calls Try.prog 10 #[.slice A0 l0.length c0, .slice A1 l1.length c1, .int .i64 size] w (RowsPost w (rowsOf (opl l0) (opl l1) size)) :=
  rows_calls A0 c0 l0 A1 c1 l1 size w (Kd.R_reads' h0).2.2 (Kd.R_reads' h1).2.2
set_option maxHeartbeats 1000000 in
set_option maxRecDepth 100000 in
theorem rise_bad (A0 : Option Addr) (c0 : Nat) (l0 : List S41) (A1 : Option Addr) (c1 : Nat) (l1 : List S41) (a2 a3 : Int) (w : World) (hr0 : Kd.C k41 w A0 l0.length l0) (hc0 : l0.length ≤ c0) (hr1 : Kd.C k41 w A1 l1.length l1) (hc1 : l1.length ≤ c1) (hb0 : l0.length * 24 ≤ 140737488351232) (hb1 : l1.length * 24 ≤ 140737488351232)
    (er : Int) (he : rowsOf (opl (conv l0)) (opl (conv l1)) a2 = ([], er)) (hne : er ≠ 0) :
    Calls Try.prog 3 #[.slice A0 l0.length c0, .slice A1 l1.length c1, .int .i64 a2, .int .i64 a3] w fun e w' => e = .returned (.bool true) ∧ Below w.heap.size w w' := by
  have HR0 := Aside0.mk hr0
  have HR1 := Aside0.mk hr1
  have HE := Aside0.mk he
  obtain ⟨d1, d2⟩ := may_ne hne
  clear hr0 hr1 he hne
  go_enter Try.func3, Try.ntmps3
  go_wp2_with fail
  refine (ops_calls A0 c0 l0 _ HR0.out hc0 hb0).mono ?_
  rintro e w1 ⟨B0, k0, rfl, hx0, hw1⟩
  go_wp2_with fail
  refine (ops_calls A1 c1 l1 _ (Kd.C_below HR1.out hw1) hc1 hb1).mono ?_
  rintro e w2 ⟨B1, k1, rfl, hx1, hw2⟩
  have HB2 := Aside0.mk (below_step hw1 hw2)
  have hx0' := Kd.R_below hx0 hw2
  have hcall := rows_of_R (size := a2) hx0' hx1
  rw [HE.out] at hcall
  have HC := Aside0.mk hcall
  clear hx0 hx1 hx0' hw1 hw2 hcall
  go_wp2_with fail
  refine HC.out.mono ?_
  clear HC
  rintro e w3 ⟨v, rfl, hv, hw3⟩
  obtain ⟨A2, c2, rfl⟩ := Kd.R_slice hv
  have HB3 := Aside0.mk (below_step HB2.out hw3)
  clear hv hw3 HB2
  go_wp2_with fail
  refine (gangwaylaw13_num.calls er er _ rfl).mono ?_
  rintro e w4 ⟨rfl, ⟨n4, rfl⟩⟩
  go_wp2_with fail
  refine (knows_calls _).mono ?_
  rintro e w5 ⟨rfl, hw5⟩
  have HB5 := Aside0.mk (below_step (pw_below_drewN HB3.out n4) hw5)
  clear hw5
  go_wp2
  go_ret
  exact ⟨rfl, HB5.out⟩
/-- A row's place and register, as cells. -/
theorem row_cells {w : World} {e base : Nat} {ok : Nat → Prop} {g n c : Nat} {L : List Row} (h : Kd.R rowK e w base ok (.slice (some ⟨g, 0, none⟩) n c) L) (i : Nat) (hi : i < n) : ∃ l, L[i]? = some l ∧ l.length = 37 ∧ w.cell? ⟨g, i * 37, none⟩ = some (.int .i64 (at0 l)) ∧ w.cell? ⟨g, i * 37 + 1, none⟩ = some (.int .i64 (reg l)) := by
  obtain ⟨l, h1, h2, h3⟩ := rd_row h i hi
  exact ⟨l, h1, h2, h3 0 _ (nums_get (by omega)), h3 1 _ (nums_get (by omega))⟩
set_option maxHeartbeats 4000000 in
set_option maxRecDepth 100000 in
theorem rise_main (A0 : Option Addr) (c0 : Nat) (l0 : List S41) (A1 : Option Addr) (c1 : Nat) (l1 : List S41) (a2 a3 : Int) (w : World) (hr0 : Kd.C k41 w A0 l0.length l0) (hc0 : l0.length ≤ c0) (hr1 : Kd.C k41 w A1 l1.length l1) (hc1 : l1.length ≤ c1) (hb0 : l0.length * 24 ≤ 140737488351232) (hb1 : l1.length * 24 ≤ 140737488351232)
    (L : List Row) (he : rowsOf (opl (conv l0)) (opl (conv l1)) a2 = (L, 0)) :
    Calls Try.prog 3 #[.slice A0 l0.length c0, .slice A1 l1.length c1, .int .i64 a2, .int .i64 a3] w fun e w' => e = .returned (.bool true) ∧ Below w.heap.size w w' := by
  have HR0 := Aside0.mk hr0
  have HR1 := Aside0.mk hr1
  have HE := Aside0.mk he
  have HRISE := Aside0.mk (rows_rise he)
  clear hr0 hr1 he
  go_enter Try.func3, Try.ntmps3
  go_wp2_with fail
  refine (ops_calls A0 c0 l0 _ HR0.out hc0 hb0).mono ?_
  rintro e w1 ⟨B0, k0, rfl, hx0, hw1⟩
  go_wp2_with fail
  refine (ops_calls A1 c1 l1 _ (Kd.C_below HR1.out hw1) hc1 hb1).mono ?_
  rintro e w2 ⟨B1, k1, rfl, hx1, hw2⟩
  have HB2 := Aside0.mk (below_step hw1 hw2)
  have hx0' := Kd.R_below hx0 hw2
  have hcall := rows_of_R (size := a2) hx0' hx1
  rw [HE.out] at hcall
  have HC := Aside0.mk hcall
  clear hx0 hx1 hx0' hw1 hw2 hcall
  go_wp2_with fail
  refine HC.out.mono ?_
  clear HC
  rintro e w3 ⟨v, rfl, hv, hw3⟩
  obtain ⟨A2, c2, rfl⟩ := Kd.R_slice hv
  obtain ⟨ad, rfl⟩ : ∃ ad, A2 = some ad := by
    obtain ⟨ad, e, _⟩ := (Kd.R_reads' hv).2.2.2.2 HRISE.out.pos
    exact ⟨ad, e⟩
  obtain ⟨g, rfl⟩ := Kd.R_head hv
  have HB3 := Aside0.mk (below_step HB2.out hw3)
  have HV := Aside0.mk hv
  clear hv hw3 HB2
  go_wp2_with fail
  refine (gangwaylaw13_num.calls 0 0 _ rfl).mono ?_
  rintro e w4 ⟨rfl, ⟨n4, rfl⟩⟩
  go_wp2_with fail
  refine (knows_calls _).mono ?_
  rintro e w5 ⟨rfl, hw5⟩
  have HB5 := Aside0.mk (below_step (pw_below_drewN HB3.out n4) hw5)
  have HV5 := Aside0.mk (Kd.R_below (Kd.R_drewN HV.out n4) hw5)
  clear hw5 HV HB3
  go_wp2
  have hfew := HRISE.out.few
  have hpos := HRISE.out.pos
  go_loopg [11] L.length (fun kq i w' => ∃ n : Nat, n + kq = L.length ∧ i = .int .i64 (n : Int) ∧ Aside0 (Kd.R rowK 35 w' w2.heap.size (fun _ => True) (.slice (some ⟨g, 0, none⟩) L.length c2) L) ∧ Aside0 (Below w.heap.size w w'))
  case atStart => exact ⟨0, by omega, rfl, HV5, HB5⟩
  case round =>
    clear HV5 HB5
    obtain ⟨n, hn, rfl, HV, HB⟩ := hrel
    cases gk with
    | succ gk =>
      have hltb : decide ((n : Int) < (L.length : Int)) = true := decide_eq_true (by omega)
      obtain ⟨l, hl, hl37, f0, f1⟩ := row_cells HV.out n (by omega)
      have hmem : l ∈ L := List.mem_of_getElem? hl
      have htop := HRISE.out.top l hmem
      have hreg := HRISE.out.regs l hmem
      have t1 : decide (at0 l > a2) = false := decide_eq_false (by omega)
      have t2 : decide (reg l < 0) = false := decide_eq_false (by have := hreg.1; omega)
      have t3 : decide (reg l > 16) = false := decide_eq_false (by have := hreg.2; omega)
      have hix := row_ix rowTy g n L.length c2 (by omega)
      rcases Nat.eq_zero_or_pos n with h0 | h0
      · subst h0
        have hz : at0 l = 0 := by
          cases hL : L with
          | nil => rw [hL] at hl; simp at hl
          | cons r rs =>
            rw [hL] at hl
            simp only [List.getElem?_cons_zero, Option.some.injEq] at hl
            rw [← hl]
            exact HRISE.out.head r rs hL
        rw [hz] at f0 t1
        rw [Nat.zero_mul] at f0 f1 hix
        have hix0 : ∀ W : World, (Instr.indexAt 23 (.slice (some ⟨g, 0, none⟩) L.length c2) (.int .i64 0)).run Try.prog W = .ok (.pointer (some ⟨g, 0, none⟩)) W := hix
        have HN := Aside0.mk hn
        clear hl htop hreg hmem hl37 hz hix
        generalize reg l = x1 at *
        go_wp2
        go_quiet (fail)
        go_wp2
        go_roundg gk
        case measure => omega
        case rel => exact ⟨1, by have := HN.out; omega, by go_num, ⟨Kd.R_drewN HV.out _⟩, ⟨pw_below_drewN HB.out _⟩⟩
      · obtain ⟨m, hm⟩ : ∃ m, n = m + 1 := ⟨n - 1, by omega⟩
        obtain ⟨p, hp, hp37, f2, f3⟩ := row_cells HV.out m (by omega)
        have hlt : at0 p < at0 l := by
          have h1 := List.pairwise_iff_getElem.1 HRISE.out.rise m n (by omega) (by omega) (by omega)
          rw [List.getElem?_eq_getElem (by omega)] at hl hp
          rw [Option.some.inj hl, Option.some.inj hp] at h1
          exact h1
        have t4 : decide (at0 l ≤ at0 p) = false := decide_eq_false (by omega)
        have hiy := row_ix rowTy g m L.length c2 (by omega)
        have HHH := Aside0.mk hl
        have g0 := (may_ne (show (n : Int) ≠ 0 by omega)).1
        have g1 : decide ((n : Int) > 0) = true := decide_eq_true (by omega)
        have g4 : decide (0 < n) = true := decide_eq_true (by omega)
        have g5 : n < L.length := by omega
        have g2 : IntKind.i64.wrap ((n : Int) - 1) = (m : Int) := by rw [IntKind.wrap_i64]; omega
        have g3 : (n : Int) - 1 = (m : Int) := by omega
        have HN := Aside0.mk hn
        clear hl hp htop hreg hmem hlt hl37 hp37 hm h0 hn f3
        generalize at0 l = x0 at *
        generalize at0 p = y0 at *
        generalize reg l = x1 at *
        go_wp2
        go_quiet (fail)
        go_wp2
        go_roundg gk
        case measure => omega
        case rel => exact ⟨n + 1, by have := HN.out; omega, by go_num, ⟨Kd.R_drewN HV.out _⟩, ⟨pw_below_drewN HB.out _⟩⟩
    | zero =>
      have hltb : decide ((n : Int) < (L.length : Int)) = false := decide_eq_false (by omega)
      have hnl : ¬ n < L.length := by omega
      have hf := find_calls (.slice (some ⟨g, 0, none⟩) L.length c2) L a3 _ _ _ HV.out (by omega)
      by_cases h3 : a3 < 0
      · obtain ⟨z, z37, e⟩ : ∃ z : Row, z.length = 37 ∧ found L a3 = (z, false) := ⟨zrow, zrow_len, by unfold found; rw [find_neg h3]⟩
        rw [e] at hf
        have HF := Aside0.mk hf
        have d3 : decide (a3 < 0) = true := decide_eq_true h3
        clear hf e hn
        go_wp2_with fail
        refine HF.out.mono ?_
        clear HF
        rintro e w6 ⟨rfl, hw6⟩
        simp only []
        have hbx := box_new (tr := 35) (w := w6) (g := w6.heap.size) rfl z37
        have HTH := Aside0.mk (there_row (blk_new w6 (.cells (nums .i64 zrow).toArray 35)) zrow_len)
        have HB7 := Aside0.mk (below_step (below_step HB.out hw6) hbx.2)
        clear hbx hw6
        go_wp2_with (first
          | (refine alloc_rowW rowTy rfl rfl ?_)
          | (refine store_rowW rowTy rfl (.tmp 12) (.tmp 100) rfl w6.heap.size 0 z z37 rfl rfl HTH.out ?_))
        go_ret
        exact ⟨rfl, HB7.out⟩
      · have h30 : 0 ≤ a3 := by omega
        obtain ⟨q, hq, hqm, hqa, hqt⟩ := find_rise HRISE.out h30
        have e : found L a3 = (q, true) := by unfold found; rw [hq]
        rw [e] at hf
        have HF := Aside0.mk hf
        have d3 : decide (a3 < 0) = false := decide_eq_false h3
        have HQT := Aside0.mk hqt
        obtain ⟨qi, hqi⟩ := List.getElem?_of_mem hqm
        have hq37 : q.length = 37 := by
          obtain ⟨l, hl, hl37, _, _⟩ := row_cells HV.out qi (List.getElem?_eq_some_iff.1 hqi).1
          rw [hqi] at hl
          rw [Option.some.inj hl]; exact hl37
        have d4 : decide (at0 q > a3) = false := decide_eq_false (by omega)
        clear hf e hn hq hqm hqa hqt h30 h3 hqi
        go_wp2_with fail
        refine HF.out.mono ?_
        clear HF
        rintro e w6 ⟨rfl, hw6⟩
        simp only []
        have hbx := box_new (tr := 35) (w := w6) (g := w6.heap.size) rfl hq37
        have HTH := Aside0.mk (there_row (blk_new w6 (.cells (nums .i64 zrow).toArray 35)) zrow_len)
        have HB7 := Aside0.mk (below_step (below_step HB.out hw6) hbx.2)
        have HV7 := Aside0.mk (Kd.R_below (Kd.R_below HV.out hw6) hbx.2)
        have HX7 := Aside0.mk hbx.1
        have e0 : ((w6.alloc (.cells (nums .i64 zrow).toArray 35)).setCells w6.heap.size 0 (nums .i64 q)).cell? ⟨w6.heap.size, 0, none⟩ = some (.int .i64 (at0 q)) := by
          rw [blk_cell hbx.1, List.getElem?_toArray]; exact nums_get (by omega)
        clear hbx hw6
        obtain ⟨qa, hqa⟩ : ∃ qa, at0 q = qa := ⟨_, rfl⟩
        rw [hqa] at e0 d4
        have HQA := Aside0.mk hqa
        clear hqa
        go_wp2_with (first
          | (refine alloc_rowW rowTy rfl rfl ?_)
          | (refine store_rowW rowTy rfl (.tmp 12) (.tmp 100) rfl w6.heap.size 0 q hq37 rfl rfl HTH.out ?_))
        have HE0 := Aside0.mk e0
        clear e0
        go_loopg [14] L.length (fun kq i w' => ∃ k : Nat, k + kq = L.length ∧ i = .int .i64 (k : Int) ∧ Aside0 (Kd.R rowK 35 w' w2.heap.size (fun _ => True) (.slice (some ⟨g, 0, none⟩) L.length c2) L) ∧ Aside0 (w'.cell? ⟨w6.heap.size, 0, none⟩ = some (.int .i64 qa)) ∧ Aside0 (Below w.heap.size w w'))
        case atStart => exact ⟨0, by omega, rfl, HV7, HE0, HB7⟩
        case round =>
          clear HV7 HE0 HB7 HX7 HTH HV HB
          obtain ⟨k, hk, rfl, HV, HE0, HB⟩ := hrel
          cases gk with
          | zero =>
            have hltb2 : decide ((k : Int) < (L.length : Int)) = false := decide_eq_false (by omega)
            have hkl : ¬ k < L.length := by omega
            clear hk
            go_wp2
            go_ret
            exact ⟨rfl, HB.out⟩
          | succ gk =>
            have hltb2 : decide ((k : Int) < (L.length : Int)) = true := decide_eq_true (by omega)
            have hkl : k < L.length := by omega
            obtain ⟨l, hl, hl37, f0, f1⟩ := row_cells HV.out k hkl
            have hmem : l ∈ L := List.mem_of_getElem? hl
            have hqt := HQT.out l hmem
            rw [HQA.out] at hqt
            have hix := row_ix rowTy g k L.length c2 hkl
            have HK := Aside0.mk hk
            have e0 := HE0.out
            clear f1 hl hmem hl37 hk
            generalize at0 l = x0 at *
            by_cases hc : x0 ≤ a3
            · have p1 : decide (x0 ≤ a3) = true := decide_eq_true hc
              have p2 : decide (x0 > qa) = false := decide_eq_false (by have := hqt hc; omega)
              clear hqt hc
              go_wp2
              go_quiet (fail)
              go_wp2
              go_roundg gk
              case measure => omega
              case rel => exact ⟨k + 1, by have := HK.out; omega, by go_num, ⟨Kd.R_drewN HV.out _⟩, ⟨HE0.out⟩, ⟨pw_below_drewN HB.out _⟩⟩
            · have p1 : decide (x0 ≤ a3) = false := decide_eq_false hc
              clear hqt hc
              go_wp2
              go_quiet (fail)
              go_wp2
              go_roundg gk
              case measure => omega
              case rel => exact ⟨k + 1, by have := HK.out; omega, by go_num, ⟨Kd.R_drewN HV.out _⟩, ⟨HE0.out⟩, ⟨pw_below_drewN HB.out _⟩⟩
theorem rise_calls (A0 : Option Addr) (c0 : Nat) (l0 : List S41) (A1 : Option Addr) (c1 : Nat) (l1 : List S41) (a2 a3 : Int) (w : World) (hr0 : Kd.C k41 w A0 l0.length l0) (hc0 : l0.length ≤ c0) (hr1 : Kd.C k41 w A1 l1.length l1) (hc1 : l1.length ≤ c1) (hb : l0.length * 24 ≤ 140737488351232 ∧ l1.length * 24 ≤ 140737488351232) :
    Calls Try.prog 3 #[.slice A0 l0.length c0, .slice A1 l1.length c1, .int .i64 a2, .int .i64 a3] w fun e w' => e = .returned (.bool true) ∧ Below w.heap.size w w' := by
  by_cases he : (rowsOf (opl (conv l0)) (opl (conv l1)) a2).2 = 0
  · exact rise_main A0 c0 l0 A1 c1 l1 a2 a3 w hr0 hc0 hr1 hc1 hb.1 hb.2 _ (Prod.ext rfl he)
  · exact rise_bad A0 c0 l0 A1 c1 l1 a2 a3 w hr0 hc0 hr1 hc1 hb.1 hb.2 _ (Prod.ext (rows_bad he) rfl) he
end Go.Proofs.Ytngddlihppomhaa.Cfa
