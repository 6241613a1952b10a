/- An op of a program of frame rules: whether it may be there, and what it does: all cases in one. -/
import Derived.Test.YtngddlihppomhaaCfaDo
namespace Go.Proofs.Ytngddlihppomhaa.Cfa
set_option linter.unusedVariables false
set_option linter.unusedSimpArgs false
open Go.RowKit Go.Proofs.Ytngddlihppomhaa.G Go.Proofs.YtngddlihppomhaaW.PrintWords Go.Proofs.YtngddlihppomhaaW.PrintLast Go.Proofs.YtngddlihppomhaaW.PrintMore

set_option maxRecDepth 100000 in
theorem do_not (w : World) (base g : Nat) (t : T) (rv kv : Value) (h : Tab w base g t rv kv) (hb : base ≤ w.heap.size) (k r n : Int) (hm : mayF k r n = false) :
    Calls Try.prog 27 #[.pointer (some ⟨g, 0, none⟩), .agg #[.int .i64 k, .int .i64 r, .int .i64 n]] w fun e w' => e = .returned (.bool false) ∧ Below base w w' := by
  have HM := Aside0.mk hm
  have HB := Aside0.mk hb
  clear h hb hm
  go_enter Try.func27, Try.ntmps27
  go_wp2_with fail
  refine (cfa_Op_may.calls k r n false _ (by unfold cfa_Op_may.f; rw [HM.out])).mono ?_
  rintro e w1 ⟨rfl, hb1⟩
  go_wp2
  go_ret
  exact ⟨rfl, (below_step (below_alloc (Below.refl w.heap.size w) _) hb1).mono HB.out⟩
set_option maxRecDepth 100000 in
theorem do_early (w : World) (base g : Nat) (t : T) (rv kv : Value) (h : Tab w base g t rv kv) (hb : base ≤ w.heap.size) (k r n : Int) (hm : mayF k r n = true) (hbg : t.begun = false) (hk : k = 1 ∨ k = 9 ∨ k = 10 ∨ k = 6) :
    Calls Try.prog 27 #[.pointer (some ⟨g, 0, none⟩), .agg #[.int .i64 k, .int .i64 r, .int .i64 n]] w fun e w' => e = .returned (.bool false) ∧ Below base w w' := by
  have HM := Aside0.mk hm
  have HB := Aside0.mk hb
  have H := Aside0.mk h
  clear h hb hm
  rcases hk with rfl | rfl | rfl | rfl
  all_goals
    go_enter Try.func27, Try.ntmps27
    go_wp2_with fail
    refine (cfa_Op_may.calls _ r n true _ (by unfold cfa_Op_may.f; rw [HM.out])).mono ?_
    rintro e w1 ⟨rfl, hb1⟩
    have hbx := blk_below (blk_new w _) hb1
    have hB1 := below_step (below_alloc (Below.refl w.heap.size w) _) hb1
    have h1 := H.out.below hB1
    have c1 := h1.begun
    have c2 := blk_cell hbx 0
    simp only [List.getElem?_toArray, List.getElem?_cons_zero] at c2
    rw [hbg] at c1
    have HB1 := Aside0.mk (hB1.mono HB.out)
    clear hb1 hbx hB1 h1
    go_wp2
    go_ret
    exact ⟨rfl, HB1.out⟩
theorem do_calls (w : World) (base g : Nat) (t : T) (rv kv : Value) (h : Tab w base g t rv kv) (hb : base ≤ w.heap.size) (k r n : Int) (hl : t.rows.length ≤ 1000000 ∧ t.kept.length ≤ 1000000 ∧ 0 ≤ t.size) :
    Calls Try.prog 27 #[.pointer (some ⟨g, 0, none⟩), .agg #[.int .i64 k, .int .i64 r, .int .i64 n]] w (Post base g w (does t k r n)) := by
  unfold does
  by_cases hm : mayF k r n = false
  · rw [if_pos hm]
    refine (do_not w base g t rv kv h hb k r n hm).mono ?_
    rintro e w' ⟨rfl, hbb⟩
    exact ⟨rfl, hbb, fun _ e => by cases e⟩
  · rw [if_neg hm]
    have hm1 : mayF k r n = true := by simpa using hm
    by_cases hbg : t.begun = false ∧ (k = 1 ∨ k = 9 ∨ k = 10 ∨ k = 6)
    · rw [if_pos hbg]
      refine (do_early w base g t rv kv h hb k r n hm1 hbg.1 hbg.2).mono ?_
      rintro e w' ⟨rfl, hbb⟩
      exact ⟨rfl, hbb, fun _ e => by cases e⟩
    · rw [if_neg hbg]
      have hbt : (k = 1 ∨ k = 9 ∨ k = 10 ∨ k = 6) → t.begun = true := fun hk => by
        cases hb2 : t.begun with
        | true => rfl
        | false => exact absurd ⟨hb2, hk⟩ hbg
      have hk := may_k hm1
      obtain ⟨m, rfl⟩ := Int.eq_ofNat_of_zero_le hk.1
      match m, hk with
      | 0, _ => exact do_0 w base g t rv kv h hb r n hm1 hl
      | 1, _ => exact do_1 w base g t rv kv h hb r n hm1 hl (hbt (by simp))
      | 2, _ => exact do_2 w base g t rv kv h hb r n hm1 hl
      | 3, _ => exact do_3 w base g t rv kv h hb r n hm1 hl
      | 4, _ => exact do_4 w base g t rv kv h hb r n hm1 hl
      | 5, _ => exact do_5 w base g t rv kv h hb r n hm1 hl
      | 6, _ => exact do_6 w base g t rv kv h hb r n hm1 hl (hbt (by simp))
      | 7, _ => exact do_7 w base g t rv kv h hb r n hm1 hl
      | 8, _ => exact do_8 w base g t rv kv h hb r n hm1 hl
      | 9, _ => exact do_9 w base g t rv kv h hb r n hm1 hl (hbt (by simp))
      | 10, _ => exact do_10 w base g t rv kv h hb r n hm1 hl (hbt (by simp))
      | m + 11, hk => exact absurd hk.2 (by omega)
end Go.Proofs.Ytngddlihppomhaa.Cfa
