/- symtab.Read: what it answers to bytes that are symbols. -/
import Derived.Test.YtejdnanhnkjaoaaSymRead
import Derived.Test.YtejdnanhnkjaoaaSymWrite
import Derived.Test.YtejdnanhnkjaoaaGfM
namespace Go.Proofs.Ytejdnanhnkjaoaa.SymR
set_option linter.unusedVariables false
set_option linter.unusedSimpArgs false
open Go.RowKit Go.Proofs.Ytejdnanhnkjaoaa.G Go.Proofs.YtejdnanhnkjaoaaW.PrintWords Go.Proofs.YtejdnanhnkjaoaaW.PrintLast Go.Proofs.YtejdnanhnkjaoaaW.PrintMore
open Go.Proofs.Ytejdnanhnkjaoaa.Bit
set_option maxHeartbeats 2000000 in
set_option maxRecDepth 100000 in
theorem read_ok (A0 : Option Addr) (c0 : Nat) (l0 : List Int) (A1 : Option Addr) (c1 : Nat) (l1 : List Int) (a2 : Int) (A3 : Option Addr) (c3 : Nat) (l3 : List ByteArray) (w : World) (hr0 : Kd.C (Kd.int .u8) w A0 l0.length l0) (hc0 : l0.length ≤ c0) (hr1 : Kd.C (Kd.int .u8) w A1 l1.length l1) (hc1 : l1.length ≤ c1) (hr3 : Kd.C Kd.string w A3 l3.length l3) (hc3 : l3.length ≤ c3)
    (xs : List S58) (hl0 : l0.length = 24 * (xs.length + 1)) (hl0m : l0.length ≤ 1048576) (hl1m : l1.length ≤ 1048576) (hx : ∀ i (h : i < xs.length), symR l0 l1 l3 (24 * ((i : Int) + 1)) = some xs[i]) (hw : SymW.writeF xs l3 = some (l0, l1, a2, 0)) (ke : Nat) (he0 : slices_Equal_byte_byte.f ke l0 l0 = some true) (he1 : slices_Equal_byte_byte.f ke l1 l1 = some true) :
    Calls Try.prog 26 #[.slice A0 l0.length c0, .slice A1 l1.length c1, .int .i64 a2, .slice A3 l3.length c3] w fun e w' => ∃ v0_ : Value, e = .returned (.tuple #[v0_, .int .i64 0]) ∧ Kd.R k58 58 w' w.heap.size (fun _ => True) v0_ xs ∧ Below w.heap.size w w' := by
  have HR0 := Aside0.mk hr0
  have HC0 := Aside0.mk hc0
  have HR1 := Aside0.mk hr1
  have HC1 := Aside0.mk hc1
  have HR3 := Aside0.mk hr3
  have HC3 := Aside0.mk hc3
  have HX := Aside0.mk hx
  have HW := Aside0.mk hw
  have HE0 := Aside0.mk he0
  have HE1 := Aside0.mk he1
  have HL0 := Aside0.mk hl0
  have HL0M := Aside0.mk hl0m
  have d0 : decide ((l0.length : Int) > 1048576) = false := decide_eq_false (by omega)
  have d1 : decide (1048576 < l0.length) = false := decide_eq_false (by omega)
  have d2 : decide ((l1.length : Int) > 1048576) = false := decide_eq_false (by omega)
  have d3 : decide (1048576 < l1.length) = false := decide_eq_false (by omega)
  have m0 : Int.tmod (l0.length : Int) 24 = 0 := by rw [Int.tmod_eq_emod_of_nonneg (by omega)]; omega
  have d4 : decide ((l0.length : Int) < 24) = false := decide_eq_false (by omega)
  have d5 : decide (l0.length < 24) = false := decide_eq_false (by omega)
  have hmf : ∀ (fn : Fn) (first cap : Array Value) (w : World), (Instr.makeFunc fn first cap).run Try.prog w = .ok (.func fn first cap) w := fun _ _ _ _ => rfl
  clear hr0 hc0 hr1 hc1 hr3 hc3 hx hw he0 he1 hl0m hl1m hl0
  go_enter_defers Try.func26, Try.ntmps26
  go_wp2_with fail
  refine (fail_no _ _).mono ?_
  rintro e w1 ⟨rfl, hw1⟩
  obtain ⟨pl, hpl⟩ : ∃ pl, pl = w.heap.size := ⟨_, rfl⟩
  have hp1 : w1.heap[pl]? = some (.cells #[.slice none 0 0] 43 (0, 0)) := by
    rw [hw1, hpl]; exact blk_alloc (blk_alloc (blk_new w _) _) _
  have hp2 : w1.heap[pl + 1]? = some (.cells #[.int .i64 0] 29 (0, 0)) := by
    rw [hw1, hpl]
    have := blk_new (w.alloc (.cells #[.slice none 0 0] 43)) (.cells #[.int .i64 0] 29)
    rw [World.size_alloc] at this
    exact blk_alloc this _
  have hp3 : Rd w1 (pl + 1 + 1) A0 l0.length c0 A1 l1.length c1 A3 l3.length c3 := by
    unfold Rd
    rw [hw1, hpl]
    have := blk_new ((w.alloc (.cells #[.slice none 0 0] 43)).alloc (.cells #[.int .i64 0] 29)) (.cells #[.slice A0 l0.length c0, .slice A1 l1.length c1, .slice A3 l3.length c3] 79)
    rw [World.size_alloc, World.size_alloc] at this
    exact this
  have hB1 : Below pl w w1 := by
    rw [hw1, hpl]
    exact below_alloc (below_alloc (below_alloc (Below.refl _ _) _) _) _
  rw [← hpl]
  have HP1 := Aside0.mk hp1
  have HP2 := Aside0.mk hp2
  have HP3 := Aside0.mk hp3
  have HB1 := Aside0.mk hB1
  have HPL := Aside0.mk hpl
  clear hp1 hp2 hp3 hB1 hw1 hpl
  go_wp2
  go_loopg [11] xs.length (fun kq v11 w' => ∃ (i : Nat) (v : Value), i + kq = xs.length ∧ v11 = .int .i64 (24 * ((i : Int) + 1)) ∧ Aside0 (w'.heap[pl]? = some (.cells #[v] 43 (0, 0))) ∧ Aside0 (Kd.R k58 58 w' pl (fun k => k ≠ pl ∧ k ≠ pl + 1 ∧ k ≠ pl + 1 + 1) v (xs.take i)) ∧ Aside0 (w'.heap[pl + 1]? = some (.cells #[.int .i64 0] 29 (0, 0))) ∧ Aside0 (Rd w' (pl + 1 + 1) A0 l0.length c0 A1 l1.length c1 A3 l3.length c3) ∧ Aside0 (Below pl w w'))
  case atStart => exact ⟨0, .slice none 0 0, by omega, rfl, HP1, ⟨Kd.R_nil _ _ _ _ _⟩, HP2, HP3, HB1⟩
  case round =>
    clear HP1 HP2 HP3 HB1
    obtain ⟨i, v, hi, rfl, HP1, HV, HP2, HP3, HB1⟩ := hrel
    have hl0 := HL0.out
    have hl0m := HL0M.out
    cases gk with
    | zero =>
      obtain rfl : i = xs.length := by omega
      rw [List.take_length] at HV
      have dl : decide (24 * ((xs.length : Int) + 1) < (l0.length : Int)) = false := decide_eq_false (by omega)
      have q1 : wr.cell? ⟨pl, 0, none⟩ = some v := (blk_cell HP1.out 0).trans rfl
      have q2 : wr.cell? ⟨pl + 1, 0, none⟩ = some (.int .i64 0) := (blk_cell HP2.out 0).trans rfl
      have q3 := blk_frozen HP1.out 0
      have q4 := blk_frozen HP2.out 0
      obtain ⟨Av, cv, rfl⟩ := Kd.R_slice HV.out
      clear hl0 hl0m hi
      go_wp2_with fail
      have HBW : Aside0 (Below w.heap.size w wr) := ⟨by rw [← HPL.out]; exact HB1.out⟩
      refine (SymW.write_calls Av cv xs A3 c3 l3 l0 l1 a2 0 _ (Kd.R_reads' HV.out).2.2 (Kd.R_reads' HV.out).2.1 (Kd.C_below HR3.out HBW.out) HC3.out HW.out).mono ?_
      rintro e w2 ⟨va, vb, rfl, ha, hb_, hb⟩
      have HA := Aside0.mk ha
      have HBB := Aside0.mk hb_
      have HB2 := Aside0.mk (below_step HBW.out hb)
      have HQ1 := Aside0.mk (blk_below HP1.out hb)
      have HQ2 := Aside0.mk (blk_below HP2.out hb)
      have HV2 := Aside0.mk (Kd.R_below HV.out hb)
      clear ha hb_ hb q1 q2 q3 q4
      obtain ⟨Aa, ca, rfl⟩ := Kd.R_slice HA.out
      obtain ⟨Ab, cb, rfl⟩ := Kd.R_slice HBB.out
      go_wp2_with fail
      refine (slices_Equal_byte_byte.calls ke Aa ca l0 A0 c0 l0 true _ (Kd.R_reads' HA.out).2.2 (Kd.R_reads' HA.out).2.1 (Kd.C_below HR0.out HB2.out) HC0.out HE0.out).mono ?_
      rintro e w3 ⟨rfl, hd⟩
      have HB3 := Aside0.mk (below_step HB2.out hd.below)
      have HS1 := Aside0.mk (blk_below HQ1.out hd.below)
      have HS2 := Aside0.mk (blk_below HQ2.out hd.below)
      have HV3 := Aside0.mk (Kd.R_below HV2.out hd.below)
      have HBB3 := Aside0.mk (Kd.R_below HBB.out hd.below)
      clear hd
      go_wp2_with fail
      refine (slices_Equal_byte_byte.calls ke Ab cb l1 A1 c1 l1 true _ (Kd.R_reads' HBB3.out).2.2 (Kd.R_reads' HBB3.out).2.1 (Kd.C_below HR1.out HB3.out) HC1.out HE1.out).mono ?_
      rintro e w4 ⟨rfl, hd⟩
      have HB4 := Aside0.mk (below_step HB3.out hd.below)
      have HT1 := Aside0.mk (blk_below HS1.out hd.below)
      have HT2 := Aside0.mk (blk_below HS2.out hd.below)
      have HV4 := Aside0.mk (Kd.R_below HV3.out hd.below)
      clear hd
      go_wp2_with fail
      refine (fail_no _ _).mono ?_
      rintro e w5 ⟨rfl, rfl⟩
      have q1 : w5.cell? ⟨pl, 0, none⟩ = some (.slice Av xs.length cv) := (blk_cell HT1.out 0).trans rfl
      have q2 : w5.cell? ⟨pl + 1, 0, none⟩ = some (.int .i64 0) := (blk_cell HT2.out 0).trans rfl
      have q3 := blk_frozen HT1.out 0
      have q4 := blk_frozen HT2.out 0
      go_wp2
      refine leaves_cons (f := 42) (args := #[.pointer (some ⟨pl, 0, none⟩), .pointer (some ⟨pl + 1, 0, none⟩)]) (by simp) (by simp [go_sem]) ?_
      refine (read_idle _ _ _).mono ?_
      rintro e u' w6 ⟨rfl, rfl, rfl⟩
      have e1 := blk_far (blk_put HT1.out 0 (.slice Av xs.length cv) rfl) (show pl ≠ (⟨pl + 1, 0, none⟩ : Addr).block by show pl ≠ pl + 1; omega) (.int .i64 0)
      have e2 := blk_put (blk_far HT2.out (show pl + 1 ≠ (⟨pl, 0, none⟩ : Addr).block by show pl + 1 ≠ pl; omega) (.slice Av xs.length cv)) 0 (.int .i64 0) rfl
      have hb5 := HB4.out
      rw [← HPL.out]
      rw [← HPL.out] at hb5
      refine ⟨.tuple #[.slice Av xs.length cv, .int .i64 0], results2c (p := 8) (q := 9) rfl _ _ _ ⟨pl, 0, none⟩ ⟨pl + 1, 0, none⟩ (.slice Av xs.length cv) (.int .i64 0) rfl rfl Try.underlying43 Try.underlying29 ((blk_cell e1 0).trans rfl) ((blk_cell e2 0).trans rfl), .slice Av xs.length cv, rfl, ?_, (hb5.setCell (Nat.le_refl _) _).setCell (Nat.le_succ _) _⟩
      exact Kd.R_mono (Kd.R_far (Kd.R_far HV4.out (p := ⟨pl, 0, none⟩) (fun k hk => hk.1) _) (p := ⟨pl + 1, 0, none⟩) (fun k hk => hk.2.1) _) (fun _ _ => trivial)
    | succ k1 =>
      have dl : decide (24 * ((i : Int) + 1) < (l0.length : Int)) = true := decide_eq_true (by omega)
      have q1 : wr.cell? ⟨pl, 0, none⟩ = some v := (blk_cell HP1.out 0).trans rfl
      have q3 := blk_frozen HP1.out 0
      have hw24 : wrap64 (24 * ((i : Int) + 1) + 24) = 24 * (((i + 1 : Nat) : Int) + 1) := by unfold wrap64; omega
      have hw24i : IntKind.i64.wrap (24 * ((i : Int) + 1) + 24) = 24 * (((i + 1 : Nat) : Int) + 1) := by rw [IntKind.wrap_i64]; omega
      have HIX := Aside0.mk (show i < xs.length by omega)
      have HAT := Aside0.mk (show 0 ≤ 24 * ((i : Int) + 1) ∧ 24 * ((i : Int) + 1) ≤ 2097152 by omega)
      have HRN := Aside0.mk (show i + 1 + k1 = xs.length by omega)
      have HAL := Aside0.mk (show ((xs.take i).length + 1) * 64 ≤ 140737488355328 by rw [List.length_take]; omega)
      clear hl0 hl0m hi
      go_wp2
      obtain ⟨x, hxe⟩ : ∃ x, xs[i]'(by have := HIX.out; omega) = x := ⟨_, rfl⟩
      have HXS : Aside0 (symR l0 l1 l3 (24 * ((i : Int) + 1)) = some x) := ⟨by rw [← hxe]; exact HX.out i HIX.out⟩
      have HTK : Aside0 (xs.take i ++ [x] = xs.take (i + 1)) := ⟨by rw [← List.take_append_getElem (l := xs) (i := i) HIX.out, hxe]⟩
      have HTL : Aside0 ((xs.take (i + 1)).length = i + 1) := ⟨by rw [List.length_take]; have := HIX.out; omega⟩
      clear hxe
      have HLTW := Aside0.mk (blk_lt HP3.out)
      refine start_ (n := 7) (S := fun u => u.cell? ⟨pl, 0, none⟩ = some v) (ds := [6]) #[false, false, false, false, false, false, false] (by kernel_rfl) rfl rfl ?_ (fun hHeld => ?_)
      case refine_1 => exact q1
      refine take_ (i := 0) (N := some 47) (v := ?_) (a' := ?_) #[true, false, false, false, false, false, false] rfl rfl (by kernel_rfl) (fun _ _ _ h => panic_put (by decide) (by decide) h) (Or.inl ⟨by rfl, ?_⟩) hHeld ?_ ?_
      rotate_left
      · rintro u s0
        go_simp
        with_reducible rfl
      rotate_left
      · simp only [Act.put, List.setIfInBounds_toArray, List.set_cons_zero, List.set_cons_succ, i64_w, i32_w]
        rfl
      refine pure_ (i := 1) (N := some 48) (v := ?_) (a' := ?_) #[true, true, false, false, false, false, false] rfl rfl (by kernel_rfl) (fun _ _ _ h => panic_put (by decide) (by decide) h) (Or.inl ⟨by rfl, ?_⟩) ?_ ?_
      rotate_left
      · intro u
        go_simp
        with_reducible rfl
      rotate_left
      · simp only [Act.put, List.setIfInBounds_toArray, List.set_cons_zero, List.set_cons_succ, i64_w, i32_w]
        rfl
      refine pure_ (i := 2) (N := some 49) (v := ?_) (a' := ?_) #[true, true, true, false, false, false, false] rfl rfl (by kernel_rfl) (fun _ _ _ h => panic_put (by decide) (by decide) h) (Or.inl ⟨by rfl, ?_⟩) ?_ ?_
      rotate_left
      · intro u
        go_simp
        with_reducible rfl
      rotate_left
      · simp only [Act.put, List.setIfInBounds_toArray, List.set_cons_zero, List.set_cons_succ, i64_w, i32_w]
        rfl
      refine one_ (i := 3) (N := some 50) #[true, true, true, true, false, false, false] rfl rfl (by kernel_rfl) (by decide) (fun K hK => ?_)
      refine goes_ Try.func44 (by kernel_rfl) rfl #[.pointer (some ⟨pl + 1 + 1, 0, none⟩), .int .i64 (24 * ((i : Int) + 1))] (by rfl) rfl rfl (by (try simp only [List.map_toArray, List.map_cons, List.map_nil]); first | done | rfl) ?_
      have HBW : Aside0 (Below w.heap.size w wr.drew) := ⟨by rw [← HPL.out]; exact below_drew1 HB1.out⟩
      refine (symbol_calls _ (pl + 1 + 1) A0 c0 l0 A1 c1 l1 A3 c3 l3 (Kd.C_below HR0.out HBW.out) HC0.out (Kd.C_below HR1.out HBW.out) HC1.out (Kd.C_below HR3.out HBW.out) (blk_drew HP3.out) _ HAT.out.1 HAT.out.2 x HXS.out).mono ?_
      rintro e w2 ⟨rfl, hb⟩
      refine ⟨_, rfl, ?_⟩
      have HQ1 := Aside0.mk (blk_below (blk_drew HP1.out) hb)
      have HQ2 := Aside0.mk (blk_below (blk_drew HP2.out) hb)
      have HQ3 := Aside0.mk (show Rd w2 (pl + 1 + 1) A0 l0.length c0 A1 l1.length c1 A3 l3.length c3 from blk_below (blk_drew HP3.out) hb)
      have HV2 := Aside0.mk (Kd.R_below (Kd.R_drew HV.out) hb)
      have HB2 := Aside0.mk (show Below pl w w2 from (below_drew1 HB1.out).trans (hb.mono (by have := HLTW.out; show pl ≤ wr.heap.size; omega)))
      have g1 : w2.cell? ⟨pl, 0, none⟩ = some v := (blk_cell HQ1.out 0).trans rfl
      clear hb hHeld q1 q3 HBW HP1 HP2 HP3 HV
      refine hK.out _ _ g1 (fun hHeld => ?_)
      clear hK K
      refine norm_ (a' := ?_) ?_ ?_
      rotate_left
      · show Act.put _ (some 50) _ = _
        simp only [Act.put, List.setIfInBounds_toArray, List.set_cons_zero, List.set_cons_succ, i64_w, i32_w]
        rfl
      refine one_ (i := 4) (N := some 51) #[true, true, true, true, true, false, false] rfl rfl (by kernel_rfl) (by decide) (fun K hK => ?_)
      refine value_ (w1 := ?_) (v := ?_) (by rfl) rfl ?_ ?_
      rotate_left 2
      · go_simp
        constructor
        · rfl
        · rfl
      refine hK.out _ _ ((World.cell?_alloc_lt _ _ _ (World.block_lt_of_cell? _ _ g1)).trans g1) (fun hHeld => ?_)
      clear hK K
      refine norm_ (a' := ?_) ?_ ?_
      rotate_left
      · show Act.put _ (some 51) _ = _
        simp only [Act.put, List.setIfInBounds_toArray, List.set_cons_zero, List.set_cons_succ, i64_w, i32_w]
        rfl
      refine one_ (i := 5) (N := some 52) #[true, true, true, true, true, true, false] rfl rfl (by kernel_rfl) (by decide) (fun K hK => ?_)
      have hlt2 := blk_lt HQ3.out
      refine Kd.R_append_step k58 (w0 := w) pl (by rfl) (.tmp 47) (.tmp 51) 43 58 (.agg #[(.string ⟨#[]⟩), (.string ⟨#[]⟩), (.int .i64 0), (.int .i64 0), (.int .i64 0), (.int .i64 0)]) 64 rfl Try.underlying43 info58 rfl (by decide) (by decide) v (xs.take i) x [.string x.f0, .string x.f1, .int .i64 x.f2, .int .i64 x.f3, .int .i64 x.f4, .int .i64 x.f5] (fun k => k ≠ pl ∧ k ≠ pl + 1 ∧ k ≠ pl + 1 + 1) (fun _ => False) rfl rfl (k58_mkM _ _ _ x) (fun _ hk => hk.elim) (fun k hk => by omega) HV2.out HB2.out (by omega) HAL.out ?_
      intro v1 w4 ho hbb hg hat
      have HQ4 := Aside0.mk (blk_grown HQ1.out hg (fun e => (HV2.out.1 _ e.symm).1 rfl))
      have HQ5 := Aside0.mk (blk_grown HQ2.out hg (fun e => (HV2.out.1 _ e.symm).2.1 rfl))
      have HQ6 := Aside0.mk (show Rd w4 (pl + 1 + 1) A0 l0.length c0 A1 l1.length c1 A3 l3.length c3 from blk_grown HQ3.out hg (fun e => (HV2.out.1 _ e.symm).2.2 rfl))
      rw [HTK.out] at ho
      obtain ⟨A4, c4, rfl⟩ := Kd.R_slice ho
      rw [HTL.out] at ho ⊢
      have HO4 := Aside0.mk ho
      have HB4 := Aside0.mk hbb
      have g4 : w4.cell? ⟨pl, 0, none⟩ = some v := (blk_cell HQ4.out 0).trans rfl
      have g5 := blk_frozen HQ4.out 0
      clear ho hbb hg hat hlt2 hHeld
      refine hK.out _ _ g4 (fun hHeld => ?_)
      clear hK K
      refine norm_ (a' := ?_) ?_ ?_
      rotate_left
      · show Act.put _ (some 52) _ = _
        simp only [Act.put, List.setIfInBounds_toArray, List.set_cons_zero, List.set_cons_succ, i64_w, i32_w]
        rfl
      refine last_ (i := 6) (N := none) #[true, true, true, true, true, true, true] rfl rfl (by kernel_rfl) (by decide) (fun K hK => ?_)
      rw [if_pos (by rfl)]
      go_simp
      refine hK.out _ _ ?_
      clear hK K
      refine done_ (by kernel_rfl) ?_
      go_wp2
      go_roundg k1
      case measure => omega
      case rel => exact ⟨i + 1, .slice A4 (i + 1) c4, HRN.out, by rfl, ⟨blk_put HQ4.out 0 _ rfl⟩, ⟨Kd.R_far HO4.out (p := ⟨pl, 0, none⟩) (fun k hk => hk.1) _⟩, ⟨blk_far HQ5.out (by show pl + 1 ≠ pl; omega) _⟩, ⟨blk_far HQ6.out (by show pl + 1 + 1 ≠ pl; omega) _⟩, ⟨Below.setCell HB4.out (Nat.le_refl _) _⟩⟩
end Go.Proofs.Ytejdnanhnkjaoaa.SymR
