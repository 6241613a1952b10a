/- An op of a program of frame rules: whether it may be there, and what it does. -/
import Derived.Test.YtngddlihppomhaaCfaOps2
import Derived.Laws.EntriesVeiled
namespace Go.Proofs.Ytngddlihppomhaa.Cfa
set_option linter.unusedVariables false
set_option linter.unusedSimpArgs false
open Go.RowKit Go.Proofs.Ytngddlihppomhaa.G Go.Proofs.YtngddlihppomhaaW.PrintWords Go.Proofs.YtngddlihppomhaaW.PrintLast Go.Proofs.YtngddlihppomhaaW.PrintMore

def waysV : Array Value := #[.func (.func 54) #[] #[], .func (.func 55) #[] #[], .func (.func 56) #[] #[], .func (.func 57) #[] #[], .func (.func 58) #[] #[], .func (.func 59) #[] #[],
  .func (.func 60) #[] #[], .func (.func 61) #[] #[], .func (.func 62) #[] #[], .func (.func 63) #[] #[], .func (.func 64) #[] #[]]
theorem ways_calls (w : World) : Calls Try.prog 38 #[] w fun e w' => e = .returned (.agg waysV) ∧ Below w.heap.size w w' := by
  go_enter Try.func38, Try.ntmps38
  go_wp2
  exact bodyPost_ret (v := .agg waysV) (results_single rfl (.cell w.heap.size 92 waysV (0, 0) _ rfl (blk_new w _) Try.underlying92 rfl (by kernel_rfl) .nil)) rfl ⟨rfl, below_alloc (Below.refl _ _) _⟩
set_option maxRecDepth 100000 in
theorem do_0 (w : World) (base g : Nat) (t : T) (rv kv : Value) (h : Tab w base g t rv kv) (hb : base ≤ w.heap.size) (r n : Int) (hm : mayF 0 r n = true) (hl : t.rows.length ≤ 1000000 ∧ t.kept.length ≤ 1000000 ∧ 0 ≤ t.size) :
    Calls Try.prog 27 #[.pointer (some ⟨g, 0, none⟩), .agg #[.int .i64 0, .int .i64 r, .int .i64 n]] w (Post base g w (act t 0 r n)) := by
  obtain ⟨R, hR⟩ : ∃ R, act t 0 r n = R := ⟨_, rfl⟩
  rw [hR]
  have HR := Aside0.mk hR
  have HL := Aside0.mk hl
  clear hR hl
  have H := Aside0.mk h
  have HM := Aside0.mk hm
  have HB := Aside0.mk hb
  have HB0 := Aside0.mk (Below.refl w.heap.size w)
  clear h hb hm
  go_enter Try.func27, Try.ntmps27
  go_wp2_with fail
  refine (cfa_Op_may.calls 0 r n true _ (by unfold cfa_Op_may.f; rw [HM.out])).mono ?_
  rintro e w1 ⟨rfl, hb1⟩
  have hbx := blk_below (blk_new w (.cells #[.int .i64 0, .int .i64 r, .int .i64 n] 40)) hb1
  have hB1 := below_step (below_alloc (Below.refl w.heap.size w) (.cells #[.int .i64 0, .int .i64 r, .int .i64 n] 40)) hb1
  have h1 := H.out.below hB1
  have c1 := h1.begun
  have c2 : w1.cell? ⟨w.heap.size, 0, none⟩ = some (.int .i64 0) := by rw [blk_cell hbx]; rfl
  have H1 := Aside0.mk h1
  have HBX := Aside0.mk hbx
  have HB1 := Aside0.mk hB1
  clear hb1 hbx hB1 h1
  cases hbg : t.begun <;> rw [hbg] at c1 <;> clear hbg
  all_goals
    go_wp2_with fail
    refine (ways_calls _).mono ?_
    rintro e w2 ⟨rfl, hb2⟩
    have h2 := H1.out.below hb2
    have hbx := blk_below HBX.out hb2
    have hB2 := below_step HB1.out hb2
    have d0 : w2.cell? ⟨w.heap.size, 0, none⟩ = some (.int .i64 0) := by rw [blk_cell hbx]; rfl
    have d1 : w2.cell? ⟨w.heap.size, 1, none⟩ = some (.int .i64 r) := by rw [blk_cell hbx]; rfl
    have d2 : w2.cell? ⟨w.heap.size, 2, none⟩ = some (.int .i64 n) := by rw [blk_cell hbx]; rfl
    have hlt : w.heap.size < w2.heap.size := blk_lt hbx
    have H2 := Aside0.mk h2
    have HB2 := Aside0.mk hB2
    clear hbx h2 hB2 hb2 c1 c2
    unfold waysV
    go_wp2
    refine still_tail 6 (by kernel_rfl) (by kernel_rfl) ?_
    simp only [List.take_succ_cons, List.take_zero, List.drop_succ_cons, List.drop_zero]
    repeat still_step
    refine wpStill_nil ?_
    go_wp2_with fail
    have hc := nop_calls _ base g t rv kv (H2.out.below (below_drew (below_alloc (Below.refl _ _) (.cells waysV 92)))) (by have := HB.out; have := HB2.out.size; simp; omega) r n HM.out
    rw [HR.out] at hc
    refine hc.mono ?_
    rintro e w3 ⟨rfl, hb3, hp⟩
    go_wp2
    go_ret
    exact ⟨rfl, ((below_drew (below_alloc HB2.out _)).mono HB.out).trans hb3, hp⟩
set_option maxRecDepth 100000 in
theorem do_1 (w : World) (base g : Nat) (t : T) (rv kv : Value) (h : Tab w base g t rv kv) (hb : base ≤ w.heap.size) (r n : Int) (hm : mayF 1 r n = true) (hl : t.rows.length ≤ 1000000 ∧ t.kept.length ≤ 1000000 ∧ 0 ≤ t.size) (hbg : t.begun = true) :
    Calls Try.prog 27 #[.pointer (some ⟨g, 0, none⟩), .agg #[.int .i64 1, .int .i64 r, .int .i64 n]] w (Post base g w (act t 1 r n)) := by
  obtain ⟨R, hR⟩ : ∃ R, act t 1 r n = R := ⟨_, rfl⟩
  rw [hR]
  have HR := Aside0.mk hR
  have HL := Aside0.mk hl
  clear hR hl
  have H := Aside0.mk h
  have HM := Aside0.mk hm
  have HB := Aside0.mk hb
  have HB0 := Aside0.mk (Below.refl w.heap.size w)
  clear h hb hm
  go_enter Try.func27, Try.ntmps27
  go_wp2_with fail
  refine (cfa_Op_may.calls 1 r n true _ (by unfold cfa_Op_may.f; rw [HM.out])).mono ?_
  rintro e w1 ⟨rfl, hb1⟩
  have hbx := blk_below (blk_new w (.cells #[.int .i64 1, .int .i64 r, .int .i64 n] 40)) hb1
  have hB1 := below_step (below_alloc (Below.refl w.heap.size w) (.cells #[.int .i64 1, .int .i64 r, .int .i64 n] 40)) hb1
  have h1 := H.out.below hB1
  have c1 := h1.begun
  have c2 : w1.cell? ⟨w.heap.size, 0, none⟩ = some (.int .i64 1) := by rw [blk_cell hbx]; rfl
  have H1 := Aside0.mk h1
  have HBX := Aside0.mk hbx
  have HB1 := Aside0.mk hB1
  clear hb1 hbx hB1 h1
  rw [hbg] at c1
  clear hbg
  all_goals
    go_wp2_with fail
    refine (ways_calls _).mono ?_
    rintro e w2 ⟨rfl, hb2⟩
    have h2 := H1.out.below hb2
    have hbx := blk_below HBX.out hb2
    have hB2 := below_step HB1.out hb2
    have d0 : w2.cell? ⟨w.heap.size, 0, none⟩ = some (.int .i64 1) := by rw [blk_cell hbx]; rfl
    have d1 : w2.cell? ⟨w.heap.size, 1, none⟩ = some (.int .i64 r) := by rw [blk_cell hbx]; rfl
    have d2 : w2.cell? ⟨w.heap.size, 2, none⟩ = some (.int .i64 n) := by rw [blk_cell hbx]; rfl
    have hlt : w.heap.size < w2.heap.size := blk_lt hbx
    have H2 := Aside0.mk h2
    have HB2 := Aside0.mk hB2
    clear hbx h2 hB2 hb2 c1 c2
    unfold waysV
    go_wp2
    refine still_tail 6 (by kernel_rfl) (by kernel_rfl) ?_
    simp only [List.take_succ_cons, List.take_zero, List.drop_succ_cons, List.drop_zero]
    repeat still_step
    refine wpStill_nil ?_
    go_wp2_with fail
    have hc := advance_calls _ base g t rv kv (H2.out.below (below_drew (below_alloc (Below.refl _ _) (.cells waysV 92)))) (by have := HB.out; have := HB2.out.size; simp; omega) r n HM.out HL.out.1 HL.out.2.2
    rw [HR.out] at hc
    refine hc.mono ?_
    rintro e w3 ⟨rfl, hb3, hp⟩
    go_wp2
    go_ret
    exact ⟨rfl, ((below_drew (below_alloc HB2.out _)).mono HB.out).trans hb3, hp⟩
set_option maxRecDepth 100000 in
theorem do_2 (w : World) (base g : Nat) (t : T) (rv kv : Value) (h : Tab w base g t rv kv) (hb : base ≤ w.heap.size) (r n : Int) (hm : mayF 2 r n = true) (hl : t.rows.length ≤ 1000000 ∧ t.kept.length ≤ 1000000 ∧ 0 ≤ t.size) :
    Calls Try.prog 27 #[.pointer (some ⟨g, 0, none⟩), .agg #[.int .i64 2, .int .i64 r, .int .i64 n]] w (Post base g w (act t 2 r n)) := by
  obtain ⟨R, hR⟩ : ∃ R, act t 2 r n = R := ⟨_, rfl⟩
  rw [hR]
  have HR := Aside0.mk hR
  have HL := Aside0.mk hl
  clear hR hl
  have H := Aside0.mk h
  have HM := Aside0.mk hm
  have HB := Aside0.mk hb
  have HB0 := Aside0.mk (Below.refl w.heap.size w)
  clear h hb hm
  go_enter Try.func27, Try.ntmps27
  go_wp2_with fail
  refine (cfa_Op_may.calls 2 r n true _ (by unfold cfa_Op_may.f; rw [HM.out])).mono ?_
  rintro e w1 ⟨rfl, hb1⟩
  have hbx := blk_below (blk_new w (.cells #[.int .i64 2, .int .i64 r, .int .i64 n] 40)) hb1
  have hB1 := below_step (below_alloc (Below.refl w.heap.size w) (.cells #[.int .i64 2, .int .i64 r, .int .i64 n] 40)) hb1
  have h1 := H.out.below hB1
  have c1 := h1.begun
  have c2 : w1.cell? ⟨w.heap.size, 0, none⟩ = some (.int .i64 2) := by rw [blk_cell hbx]; rfl
  have H1 := Aside0.mk h1
  have HBX := Aside0.mk hbx
  have HB1 := Aside0.mk hB1
  clear hb1 hbx hB1 h1
  cases hbg : t.begun <;> rw [hbg] at c1 <;> clear hbg
  all_goals
    go_wp2_with fail
    refine (ways_calls _).mono ?_
    rintro e w2 ⟨rfl, hb2⟩
    have h2 := H1.out.below hb2
    have hbx := blk_below HBX.out hb2
    have hB2 := below_step HB1.out hb2
    have d0 : w2.cell? ⟨w.heap.size, 0, none⟩ = some (.int .i64 2) := by rw [blk_cell hbx]; rfl
    have d1 : w2.cell? ⟨w.heap.size, 1, none⟩ = some (.int .i64 r) := by rw [blk_cell hbx]; rfl
    have d2 : w2.cell? ⟨w.heap.size, 2, none⟩ = some (.int .i64 n) := by rw [blk_cell hbx]; rfl
    have hlt : w.heap.size < w2.heap.size := blk_lt hbx
    have H2 := Aside0.mk h2
    have HB2 := Aside0.mk hB2
    clear hbx h2 hB2 hb2 c1 c2
    unfold waysV
    go_wp2
    refine still_tail 6 (by kernel_rfl) (by kernel_rfl) ?_
    simp only [List.take_succ_cons, List.take_zero, List.drop_succ_cons, List.drop_zero]
    repeat still_step
    refine wpStill_nil ?_
    go_wp2_with fail
    have hc := defCfa_calls _ base g t rv kv (H2.out.below (below_drew (below_alloc (Below.refl _ _) (.cells waysV 92)))) (by have := HB.out; have := HB2.out.size; simp; omega) r n HM.out
    rw [HR.out] at hc
    refine hc.mono ?_
    rintro e w3 ⟨rfl, hb3, hp⟩
    go_wp2
    go_ret
    exact ⟨rfl, ((below_drew (below_alloc HB2.out _)).mono HB.out).trans hb3, hp⟩
set_option maxRecDepth 100000 in
theorem do_3 (w : World) (base g : Nat) (t : T) (rv kv : Value) (h : Tab w base g t rv kv) (hb : base ≤ w.heap.size) (r n : Int) (hm : mayF 3 r n = true) (hl : t.rows.length ≤ 1000000 ∧ t.kept.length ≤ 1000000 ∧ 0 ≤ t.size) :
    Calls Try.prog 27 #[.pointer (some ⟨g, 0, none⟩), .agg #[.int .i64 3, .int .i64 r, .int .i64 n]] w (Post base g w (act t 3 r n)) := by
  obtain ⟨R, hR⟩ : ∃ R, act t 3 r n = R := ⟨_, rfl⟩
  rw [hR]
  have HR := Aside0.mk hR
  have HL := Aside0.mk hl
  clear hR hl
  have H := Aside0.mk h
  have HM := Aside0.mk hm
  have HB := Aside0.mk hb
  have HB0 := Aside0.mk (Below.refl w.heap.size w)
  clear h hb hm
  go_enter Try.func27, Try.ntmps27
  go_wp2_with fail
  refine (cfa_Op_may.calls 3 r n true _ (by unfold cfa_Op_may.f; rw [HM.out])).mono ?_
  rintro e w1 ⟨rfl, hb1⟩
  have hbx := blk_below (blk_new w (.cells #[.int .i64 3, .int .i64 r, .int .i64 n] 40)) hb1
  have hB1 := below_step (below_alloc (Below.refl w.heap.size w) (.cells #[.int .i64 3, .int .i64 r, .int .i64 n] 40)) hb1
  have h1 := H.out.below hB1
  have c1 := h1.begun
  have c2 : w1.cell? ⟨w.heap.size, 0, none⟩ = some (.int .i64 3) := by rw [blk_cell hbx]; rfl
  have H1 := Aside0.mk h1
  have HBX := Aside0.mk hbx
  have HB1 := Aside0.mk hB1
  clear hb1 hbx hB1 h1
  cases hbg : t.begun <;> rw [hbg] at c1 <;> clear hbg
  all_goals
    go_wp2_with fail
    refine (ways_calls _).mono ?_
    rintro e w2 ⟨rfl, hb2⟩
    have h2 := H1.out.below hb2
    have hbx := blk_below HBX.out hb2
    have hB2 := below_step HB1.out hb2
    have d0 : w2.cell? ⟨w.heap.size, 0, none⟩ = some (.int .i64 3) := by rw [blk_cell hbx]; rfl
    have d1 : w2.cell? ⟨w.heap.size, 1, none⟩ = some (.int .i64 r) := by rw [blk_cell hbx]; rfl
    have d2 : w2.cell? ⟨w.heap.size, 2, none⟩ = some (.int .i64 n) := by rw [blk_cell hbx]; rfl
    have hlt : w.heap.size < w2.heap.size := blk_lt hbx
    have H2 := Aside0.mk h2
    have HB2 := Aside0.mk hB2
    clear hbx h2 hB2 hb2 c1 c2
    unfold waysV
    go_wp2
    refine still_tail 6 (by kernel_rfl) (by kernel_rfl) ?_
    simp only [List.take_succ_cons, List.take_zero, List.drop_succ_cons, List.drop_zero]
    repeat still_step
    refine wpStill_nil ?_
    go_wp2_with fail
    have hc := defOffset_calls _ base g t rv kv (H2.out.below (below_drew (below_alloc (Below.refl _ _) (.cells waysV 92)))) (by have := HB.out; have := HB2.out.size; simp; omega) r n HM.out
    rw [HR.out] at hc
    refine hc.mono ?_
    rintro e w3 ⟨rfl, hb3, hp⟩
    go_wp2
    go_ret
    exact ⟨rfl, ((below_drew (below_alloc HB2.out _)).mono HB.out).trans hb3, hp⟩
set_option maxRecDepth 100000 in
theorem do_4 (w : World) (base g : Nat) (t : T) (rv kv : Value) (h : Tab w base g t rv kv) (hb : base ≤ w.heap.size) (r n : Int) (hm : mayF 4 r n = true) (hl : t.rows.length ≤ 1000000 ∧ t.kept.length ≤ 1000000 ∧ 0 ≤ t.size) :
    Calls Try.prog 27 #[.pointer (some ⟨g, 0, none⟩), .agg #[.int .i64 4, .int .i64 r, .int .i64 n]] w (Post base g w (act t 4 r n)) := by
  obtain ⟨R, hR⟩ : ∃ R, act t 4 r n = R := ⟨_, rfl⟩
  rw [hR]
  have HR := Aside0.mk hR
  have HL := Aside0.mk hl
  clear hR hl
  have H := Aside0.mk h
  have HM := Aside0.mk hm
  have HB := Aside0.mk hb
  have HB0 := Aside0.mk (Below.refl w.heap.size w)
  clear h hb hm
  go_enter Try.func27, Try.ntmps27
  go_wp2_with fail
  refine (cfa_Op_may.calls 4 r n true _ (by unfold cfa_Op_may.f; rw [HM.out])).mono ?_
  rintro e w1 ⟨rfl, hb1⟩
  have hbx := blk_below (blk_new w (.cells #[.int .i64 4, .int .i64 r, .int .i64 n] 40)) hb1
  have hB1 := below_step (below_alloc (Below.refl w.heap.size w) (.cells #[.int .i64 4, .int .i64 r, .int .i64 n] 40)) hb1
  have h1 := H.out.below hB1
  have c1 := h1.begun
  have c2 : w1.cell? ⟨w.heap.size, 0, none⟩ = some (.int .i64 4) := by rw [blk_cell hbx]; rfl
  have H1 := Aside0.mk h1
  have HBX := Aside0.mk hbx
  have HB1 := Aside0.mk hB1
  clear hb1 hbx hB1 h1
  cases hbg : t.begun <;> rw [hbg] at c1 <;> clear hbg
  all_goals
    go_wp2_with fail
    refine (ways_calls _).mono ?_
    rintro e w2 ⟨rfl, hb2⟩
    have h2 := H1.out.below hb2
    have hbx := blk_below HBX.out hb2
    have hB2 := below_step HB1.out hb2
    have d0 : w2.cell? ⟨w.heap.size, 0, none⟩ = some (.int .i64 4) := by rw [blk_cell hbx]; rfl
    have d1 : w2.cell? ⟨w.heap.size, 1, none⟩ = some (.int .i64 r) := by rw [blk_cell hbx]; rfl
    have d2 : w2.cell? ⟨w.heap.size, 2, none⟩ = some (.int .i64 n) := by rw [blk_cell hbx]; rfl
    have hlt : w.heap.size < w2.heap.size := blk_lt hbx
    have H2 := Aside0.mk h2
    have HB2 := Aside0.mk hB2
    clear hbx h2 hB2 hb2 c1 c2
    unfold waysV
    go_wp2
    refine still_tail 6 (by kernel_rfl) (by kernel_rfl) ?_
    simp only [List.take_succ_cons, List.take_zero, List.drop_succ_cons, List.drop_zero]
    repeat still_step
    refine wpStill_nil ?_
    go_wp2_with fail
    have hc := defRegister_calls _ base g t rv kv (H2.out.below (below_drew (below_alloc (Below.refl _ _) (.cells waysV 92)))) (by have := HB.out; have := HB2.out.size; simp; omega) r n HM.out
    rw [HR.out] at hc
    refine hc.mono ?_
    rintro e w3 ⟨rfl, hb3, hp⟩
    go_wp2
    go_ret
    exact ⟨rfl, ((below_drew (below_alloc HB2.out _)).mono HB.out).trans hb3, hp⟩
set_option maxRecDepth 100000 in
theorem do_5 (w : World) (base g : Nat) (t : T) (rv kv : Value) (h : Tab w base g t rv kv) (hb : base ≤ w.heap.size) (r n : Int) (hm : mayF 5 r n = true) (hl : t.rows.length ≤ 1000000 ∧ t.kept.length ≤ 1000000 ∧ 0 ≤ t.size) :
    Calls Try.prog 27 #[.pointer (some ⟨g, 0, none⟩), .agg #[.int .i64 5, .int .i64 r, .int .i64 n]] w (Post base g w (act t 5 r n)) := by
  obtain ⟨R, hR⟩ : ∃ R, act t 5 r n = R := ⟨_, rfl⟩
  rw [hR]
  have HR := Aside0.mk hR
  have HL := Aside0.mk hl
  clear hR hl
  have H := Aside0.mk h
  have HM := Aside0.mk hm
  have HB := Aside0.mk hb
  have HB0 := Aside0.mk (Below.refl w.heap.size w)
  clear h hb hm
  go_enter Try.func27, Try.ntmps27
  go_wp2_with fail
  refine (cfa_Op_may.calls 5 r n true _ (by unfold cfa_Op_may.f; rw [HM.out])).mono ?_
  rintro e w1 ⟨rfl, hb1⟩
  have hbx := blk_below (blk_new w (.cells #[.int .i64 5, .int .i64 r, .int .i64 n] 40)) hb1
  have hB1 := below_step (below_alloc (Below.refl w.heap.size w) (.cells #[.int .i64 5, .int .i64 r, .int .i64 n] 40)) hb1
  have h1 := H.out.below hB1
  have c1 := h1.begun
  have c2 : w1.cell? ⟨w.heap.size, 0, none⟩ = some (.int .i64 5) := by rw [blk_cell hbx]; rfl
  have H1 := Aside0.mk h1
  have HBX := Aside0.mk hbx
  have HB1 := Aside0.mk hB1
  clear hb1 hbx hB1 h1
  cases hbg : t.begun <;> rw [hbg] at c1 <;> clear hbg
  all_goals
    go_wp2_with fail
    refine (ways_calls _).mono ?_
    rintro e w2 ⟨rfl, hb2⟩
    have h2 := H1.out.below hb2
    have hbx := blk_below HBX.out hb2
    have hB2 := below_step HB1.out hb2
    have d0 : w2.cell? ⟨w.heap.size, 0, none⟩ = some (.int .i64 5) := by rw [blk_cell hbx]; rfl
    have d1 : w2.cell? ⟨w.heap.size, 1, none⟩ = some (.int .i64 r) := by rw [blk_cell hbx]; rfl
    have d2 : w2.cell? ⟨w.heap.size, 2, none⟩ = some (.int .i64 n) := by rw [blk_cell hbx]; rfl
    have hlt : w.heap.size < w2.heap.size := blk_lt hbx
    have H2 := Aside0.mk h2
    have HB2 := Aside0.mk hB2
    clear hbx h2 hB2 hb2 c1 c2
    unfold waysV
    go_wp2
    refine still_tail 6 (by kernel_rfl) (by kernel_rfl) ?_
    simp only [List.take_succ_cons, List.take_zero, List.drop_succ_cons, List.drop_zero]
    repeat still_step
    refine wpStill_nil ?_
    go_wp2_with fail
    have hc := offset_calls _ base g t rv kv (H2.out.below (below_drew (below_alloc (Below.refl _ _) (.cells waysV 92)))) (by have := HB.out; have := HB2.out.size; simp; omega) r n HM.out
    rw [HR.out] at hc
    refine hc.mono ?_
    rintro e w3 ⟨rfl, hb3, hp⟩
    go_wp2
    go_ret
    exact ⟨rfl, ((below_drew (below_alloc HB2.out _)).mono HB.out).trans hb3, hp⟩
set_option maxRecDepth 100000 in
theorem do_6 (w : World) (base g : Nat) (t : T) (rv kv : Value) (h : Tab w base g t rv kv) (hb : base ≤ w.heap.size) (r n : Int) (hm : mayF 6 r n = true) (hl : t.rows.length ≤ 1000000 ∧ t.kept.length ≤ 1000000 ∧ 0 ≤ t.size) (hbg : t.begun = true) :
    Calls Try.prog 27 #[.pointer (some ⟨g, 0, none⟩), .agg #[.int .i64 6, .int .i64 r, .int .i64 n]] w (Post base g w (act t 6 r n)) := by
  obtain ⟨R, hR⟩ : ∃ R, act t 6 r n = R := ⟨_, rfl⟩
  rw [hR]
  have HR := Aside0.mk hR
  have HL := Aside0.mk hl
  clear hR hl
  have H := Aside0.mk h
  have HM := Aside0.mk hm
  have HB := Aside0.mk hb
  have HB0 := Aside0.mk (Below.refl w.heap.size w)
  clear h hb hm
  go_enter Try.func27, Try.ntmps27
  go_wp2_with fail
  refine (cfa_Op_may.calls 6 r n true _ (by unfold cfa_Op_may.f; rw [HM.out])).mono ?_
  rintro e w1 ⟨rfl, hb1⟩
  have hbx := blk_below (blk_new w (.cells #[.int .i64 6, .int .i64 r, .int .i64 n] 40)) hb1
  have hB1 := below_step (below_alloc (Below.refl w.heap.size w) (.cells #[.int .i64 6, .int .i64 r, .int .i64 n] 40)) hb1
  have h1 := H.out.below hB1
  have c1 := h1.begun
  have c2 : w1.cell? ⟨w.heap.size, 0, none⟩ = some (.int .i64 6) := by rw [blk_cell hbx]; rfl
  have H1 := Aside0.mk h1
  have HBX := Aside0.mk hbx
  have HB1 := Aside0.mk hB1
  clear hb1 hbx hB1 h1
  rw [hbg] at c1
  clear hbg
  all_goals
    go_wp2_with fail
    refine (ways_calls _).mono ?_
    rintro e w2 ⟨rfl, hb2⟩
    have h2 := H1.out.below hb2
    have hbx := blk_below HBX.out hb2
    have hB2 := below_step HB1.out hb2
    have d0 : w2.cell? ⟨w.heap.size, 0, none⟩ = some (.int .i64 6) := by rw [blk_cell hbx]; rfl
    have d1 : w2.cell? ⟨w.heap.size, 1, none⟩ = some (.int .i64 r) := by rw [blk_cell hbx]; rfl
    have d2 : w2.cell? ⟨w.heap.size, 2, none⟩ = some (.int .i64 n) := by rw [blk_cell hbx]; rfl
    have hlt : w.heap.size < w2.heap.size := blk_lt hbx
    have H2 := Aside0.mk h2
    have HB2 := Aside0.mk hB2
    clear hbx h2 hB2 hb2 c1 c2
    unfold waysV
    go_wp2
    refine still_tail 6 (by kernel_rfl) (by kernel_rfl) ?_
    simp only [List.take_succ_cons, List.take_zero, List.drop_succ_cons, List.drop_zero]
    repeat still_step
    refine wpStill_nil ?_
    go_wp2_with fail
    have hc := restore_calls _ base g t rv kv (H2.out.below (below_drew (below_alloc (Below.refl _ _) (.cells waysV 92)))) (by have := HB.out; have := HB2.out.size; simp; omega) r n HM.out
    rw [HR.out] at hc
    refine hc.mono ?_
    rintro e w3 ⟨rfl, hb3, hp⟩
    go_wp2
    go_ret
    exact ⟨rfl, ((below_drew (below_alloc HB2.out _)).mono HB.out).trans hb3, hp⟩
set_option maxRecDepth 100000 in
theorem do_7 (w : World) (base g : Nat) (t : T) (rv kv : Value) (h : Tab w base g t rv kv) (hb : base ≤ w.heap.size) (r n : Int) (hm : mayF 7 r n = true) (hl : t.rows.length ≤ 1000000 ∧ t.kept.length ≤ 1000000 ∧ 0 ≤ t.size) :
    Calls Try.prog 27 #[.pointer (some ⟨g, 0, none⟩), .agg #[.int .i64 7, .int .i64 r, .int .i64 n]] w (Post base g w (act t 7 r n)) := by
  obtain ⟨R, hR⟩ : ∃ R, act t 7 r n = R := ⟨_, rfl⟩
  rw [hR]
  have HR := Aside0.mk hR
  have HL := Aside0.mk hl
  clear hR hl
  have H := Aside0.mk h
  have HM := Aside0.mk hm
  have HB := Aside0.mk hb
  have HB0 := Aside0.mk (Below.refl w.heap.size w)
  clear h hb hm
  go_enter Try.func27, Try.ntmps27
  go_wp2_with fail
  refine (cfa_Op_may.calls 7 r n true _ (by unfold cfa_Op_may.f; rw [HM.out])).mono ?_
  rintro e w1 ⟨rfl, hb1⟩
  have hbx := blk_below (blk_new w (.cells #[.int .i64 7, .int .i64 r, .int .i64 n] 40)) hb1
  have hB1 := below_step (below_alloc (Below.refl w.heap.size w) (.cells #[.int .i64 7, .int .i64 r, .int .i64 n] 40)) hb1
  have h1 := H.out.below hB1
  have c1 := h1.begun
  have c2 : w1.cell? ⟨w.heap.size, 0, none⟩ = some (.int .i64 7) := by rw [blk_cell hbx]; rfl
  have H1 := Aside0.mk h1
  have HBX := Aside0.mk hbx
  have HB1 := Aside0.mk hB1
  clear hb1 hbx hB1 h1
  cases hbg : t.begun <;> rw [hbg] at c1 <;> clear hbg
  all_goals
    go_wp2_with fail
    refine (ways_calls _).mono ?_
    rintro e w2 ⟨rfl, hb2⟩
    have h2 := H1.out.below hb2
    have hbx := blk_below HBX.out hb2
    have hB2 := below_step HB1.out hb2
    have d0 : w2.cell? ⟨w.heap.size, 0, none⟩ = some (.int .i64 7) := by rw [blk_cell hbx]; rfl
    have d1 : w2.cell? ⟨w.heap.size, 1, none⟩ = some (.int .i64 r) := by rw [blk_cell hbx]; rfl
    have d2 : w2.cell? ⟨w.heap.size, 2, none⟩ = some (.int .i64 n) := by rw [blk_cell hbx]; rfl
    have hlt : w.heap.size < w2.heap.size := blk_lt hbx
    have H2 := Aside0.mk h2
    have HB2 := Aside0.mk hB2
    clear hbx h2 hB2 hb2 c1 c2
    unfold waysV
    go_wp2
    refine still_tail 6 (by kernel_rfl) (by kernel_rfl) ?_
    simp only [List.take_succ_cons, List.take_zero, List.drop_succ_cons, List.drop_zero]
    repeat still_step
    refine wpStill_nil ?_
    go_wp2_with fail
    have hc := undefined_calls _ base g t rv kv (H2.out.below (below_drew (below_alloc (Below.refl _ _) (.cells waysV 92)))) (by have := HB.out; have := HB2.out.size; simp; omega) r n HM.out
    rw [HR.out] at hc
    refine hc.mono ?_
    rintro e w3 ⟨rfl, hb3, hp⟩
    go_wp2
    go_ret
    exact ⟨rfl, ((below_drew (below_alloc HB2.out _)).mono HB.out).trans hb3, hp⟩
set_option maxRecDepth 100000 in
theorem do_8 (w : World) (base g : Nat) (t : T) (rv kv : Value) (h : Tab w base g t rv kv) (hb : base ≤ w.heap.size) (r n : Int) (hm : mayF 8 r n = true) (hl : t.rows.length ≤ 1000000 ∧ t.kept.length ≤ 1000000 ∧ 0 ≤ t.size) :
    Calls Try.prog 27 #[.pointer (some ⟨g, 0, none⟩), .agg #[.int .i64 8, .int .i64 r, .int .i64 n]] w (Post base g w (act t 8 r n)) := by
  obtain ⟨R, hR⟩ : ∃ R, act t 8 r n = R := ⟨_, rfl⟩
  rw [hR]
  have HR := Aside0.mk hR
  have HL := Aside0.mk hl
  clear hR hl
  have H := Aside0.mk h
  have HM := Aside0.mk hm
  have HB := Aside0.mk hb
  have HB0 := Aside0.mk (Below.refl w.heap.size w)
  clear h hb hm
  go_enter Try.func27, Try.ntmps27
  go_wp2_with fail
  refine (cfa_Op_may.calls 8 r n true _ (by unfold cfa_Op_may.f; rw [HM.out])).mono ?_
  rintro e w1 ⟨rfl, hb1⟩
  have hbx := blk_below (blk_new w (.cells #[.int .i64 8, .int .i64 r, .int .i64 n] 40)) hb1
  have hB1 := below_step (below_alloc (Below.refl w.heap.size w) (.cells #[.int .i64 8, .int .i64 r, .int .i64 n] 40)) hb1
  have h1 := H.out.below hB1
  have c1 := h1.begun
  have c2 : w1.cell? ⟨w.heap.size, 0, none⟩ = some (.int .i64 8) := by rw [blk_cell hbx]; rfl
  have H1 := Aside0.mk h1
  have HBX := Aside0.mk hbx
  have HB1 := Aside0.mk hB1
  clear hb1 hbx hB1 h1
  cases hbg : t.begun <;> rw [hbg] at c1 <;> clear hbg
  all_goals
    go_wp2_with fail
    refine (ways_calls _).mono ?_
    rintro e w2 ⟨rfl, hb2⟩
    have h2 := H1.out.below hb2
    have hbx := blk_below HBX.out hb2
    have hB2 := below_step HB1.out hb2
    have d0 : w2.cell? ⟨w.heap.size, 0, none⟩ = some (.int .i64 8) := by rw [blk_cell hbx]; rfl
    have d1 : w2.cell? ⟨w.heap.size, 1, none⟩ = some (.int .i64 r) := by rw [blk_cell hbx]; rfl
    have d2 : w2.cell? ⟨w.heap.size, 2, none⟩ = some (.int .i64 n) := by rw [blk_cell hbx]; rfl
    have hlt : w.heap.size < w2.heap.size := blk_lt hbx
    have H2 := Aside0.mk h2
    have HB2 := Aside0.mk hB2
    clear hbx h2 hB2 hb2 c1 c2
    unfold waysV
    go_wp2
    refine still_tail 6 (by kernel_rfl) (by kernel_rfl) ?_
    simp only [List.take_succ_cons, List.take_zero, List.drop_succ_cons, List.drop_zero]
    repeat still_step
    refine wpStill_nil ?_
    go_wp2_with fail
    have hc := sameValue_calls _ base g t rv kv (H2.out.below (below_drew (below_alloc (Below.refl _ _) (.cells waysV 92)))) (by have := HB.out; have := HB2.out.size; simp; omega) r n HM.out
    rw [HR.out] at hc
    refine hc.mono ?_
    rintro e w3 ⟨rfl, hb3, hp⟩
    go_wp2
    go_ret
    exact ⟨rfl, ((below_drew (below_alloc HB2.out _)).mono HB.out).trans hb3, hp⟩
set_option maxRecDepth 100000 in
theorem do_9 (w : World) (base g : Nat) (t : T) (rv kv : Value) (h : Tab w base g t rv kv) (hb : base ≤ w.heap.size) (r n : Int) (hm : mayF 9 r n = true) (hl : t.rows.length ≤ 1000000 ∧ t.kept.length ≤ 1000000 ∧ 0 ≤ t.size) (hbg : t.begun = true) :
    Calls Try.prog 27 #[.pointer (some ⟨g, 0, none⟩), .agg #[.int .i64 9, .int .i64 r, .int .i64 n]] w (Post base g w (act t 9 r n)) := by
  obtain ⟨R, hR⟩ : ∃ R, act t 9 r n = R := ⟨_, rfl⟩
  rw [hR]
  have HR := Aside0.mk hR
  have HL := Aside0.mk hl
  clear hR hl
  have H := Aside0.mk h
  have HM := Aside0.mk hm
  have HB := Aside0.mk hb
  have HB0 := Aside0.mk (Below.refl w.heap.size w)
  clear h hb hm
  go_enter Try.func27, Try.ntmps27
  go_wp2_with fail
  refine (cfa_Op_may.calls 9 r n true _ (by unfold cfa_Op_may.f; rw [HM.out])).mono ?_
  rintro e w1 ⟨rfl, hb1⟩
  have hbx := blk_below (blk_new w (.cells #[.int .i64 9, .int .i64 r, .int .i64 n] 40)) hb1
  have hB1 := below_step (below_alloc (Below.refl w.heap.size w) (.cells #[.int .i64 9, .int .i64 r, .int .i64 n] 40)) hb1
  have h1 := H.out.below hB1
  have c1 := h1.begun
  have c2 : w1.cell? ⟨w.heap.size, 0, none⟩ = some (.int .i64 9) := by rw [blk_cell hbx]; rfl
  have H1 := Aside0.mk h1
  have HBX := Aside0.mk hbx
  have HB1 := Aside0.mk hB1
  clear hb1 hbx hB1 h1
  rw [hbg] at c1
  clear hbg
  all_goals
    go_wp2_with fail
    refine (ways_calls _).mono ?_
    rintro e w2 ⟨rfl, hb2⟩
    have h2 := H1.out.below hb2
    have hbx := blk_below HBX.out hb2
    have hB2 := below_step HB1.out hb2
    have d0 : w2.cell? ⟨w.heap.size, 0, none⟩ = some (.int .i64 9) := by rw [blk_cell hbx]; rfl
    have d1 : w2.cell? ⟨w.heap.size, 1, none⟩ = some (.int .i64 r) := by rw [blk_cell hbx]; rfl
    have d2 : w2.cell? ⟨w.heap.size, 2, none⟩ = some (.int .i64 n) := by rw [blk_cell hbx]; rfl
    have hlt : w.heap.size < w2.heap.size := blk_lt hbx
    have H2 := Aside0.mk h2
    have HB2 := Aside0.mk hB2
    clear hbx h2 hB2 hb2 c1 c2
    unfold waysV
    go_wp2
    refine still_tail 6 (by kernel_rfl) (by kernel_rfl) ?_
    simp only [List.take_succ_cons, List.take_zero, List.drop_succ_cons, List.drop_zero]
    repeat still_step
    refine wpStill_nil ?_
    go_wp2_with fail
    have hc := remember_calls _ base g t rv kv (H2.out.below (below_drew (below_alloc (Below.refl _ _) (.cells waysV 92)))) (by have := HB.out; have := HB2.out.size; simp; omega) r n HM.out HL.out.2.1
    rw [HR.out] at hc
    refine hc.mono ?_
    rintro e w3 ⟨rfl, hb3, hp⟩
    go_wp2
    go_ret
    exact ⟨rfl, ((below_drew (below_alloc HB2.out _)).mono HB.out).trans hb3, hp⟩
set_option maxRecDepth 100000 in
theorem do_10 (w : World) (base g : Nat) (t : T) (rv kv : Value) (h : Tab w base g t rv kv) (hb : base ≤ w.heap.size) (r n : Int) (hm : mayF 10 r n = true) (hl : t.rows.length ≤ 1000000 ∧ t.kept.length ≤ 1000000 ∧ 0 ≤ t.size) (hbg : t.begun = true) :
    Calls Try.prog 27 #[.pointer (some ⟨g, 0, none⟩), .agg #[.int .i64 10, .int .i64 r, .int .i64 n]] w (Post base g w (act t 10 r n)) := by
  obtain ⟨R, hR⟩ : ∃ R, act t 10 r n = R := ⟨_, rfl⟩
  rw [hR]
  have HR := Aside0.mk hR
  have HL := Aside0.mk hl
  clear hR hl
  have H := Aside0.mk h
  have HM := Aside0.mk hm
  have HB := Aside0.mk hb
  have HB0 := Aside0.mk (Below.refl w.heap.size w)
  clear h hb hm
  go_enter Try.func27, Try.ntmps27
  go_wp2_with fail
  refine (cfa_Op_may.calls 10 r n true _ (by unfold cfa_Op_may.f; rw [HM.out])).mono ?_
  rintro e w1 ⟨rfl, hb1⟩
  have hbx := blk_below (blk_new w (.cells #[.int .i64 10, .int .i64 r, .int .i64 n] 40)) hb1
  have hB1 := below_step (below_alloc (Below.refl w.heap.size w) (.cells #[.int .i64 10, .int .i64 r, .int .i64 n] 40)) hb1
  have h1 := H.out.below hB1
  have c1 := h1.begun
  have c2 : w1.cell? ⟨w.heap.size, 0, none⟩ = some (.int .i64 10) := by rw [blk_cell hbx]; rfl
  have H1 := Aside0.mk h1
  have HBX := Aside0.mk hbx
  have HB1 := Aside0.mk hB1
  clear hb1 hbx hB1 h1
  rw [hbg] at c1
  clear hbg
  all_goals
    go_wp2_with fail
    refine (ways_calls _).mono ?_
    rintro e w2 ⟨rfl, hb2⟩
    have h2 := H1.out.below hb2
    have hbx := blk_below HBX.out hb2
    have hB2 := below_step HB1.out hb2
    have d0 : w2.cell? ⟨w.heap.size, 0, none⟩ = some (.int .i64 10) := by rw [blk_cell hbx]; rfl
    have d1 : w2.cell? ⟨w.heap.size, 1, none⟩ = some (.int .i64 r) := by rw [blk_cell hbx]; rfl
    have d2 : w2.cell? ⟨w.heap.size, 2, none⟩ = some (.int .i64 n) := by rw [blk_cell hbx]; rfl
    have hlt : w.heap.size < w2.heap.size := blk_lt hbx
    have H2 := Aside0.mk h2
    have HB2 := Aside0.mk hB2
    clear hbx h2 hB2 hb2 c1 c2
    unfold waysV
    go_wp2
    refine still_tail 6 (by kernel_rfl) (by kernel_rfl) ?_
    simp only [List.take_succ_cons, List.take_zero, List.drop_succ_cons, List.drop_zero]
    repeat still_step
    refine wpStill_nil ?_
    go_wp2_with fail
    have hc := recall_calls _ base g t rv kv (H2.out.below (below_drew (below_alloc (Below.refl _ _) (.cells waysV 92)))) (by have := HB.out; have := HB2.out.size; simp; omega) r n HM.out HL.out.2.1
    rw [HR.out] at hc
    refine hc.mono ?_
    rintro e w3 ⟨rfl, hb3, hp⟩
    go_wp2
    go_ret
    exact ⟨rfl, ((below_drew (below_alloc HB2.out _)).mono HB.out).trans hb3, hp⟩
end Go.Proofs.Ytngddlihppomhaa.Cfa
