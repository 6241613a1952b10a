/- Each theorem here says what a call of one Go function returns, and what it leaves of the memory, for the arguments that its hypotheses name. Printed by a driver of this session over the kit's printer; what stands behind GIVENBYHAND is this session's own text. -/
import Derived.Test.YtngddlihppomhaaG0
namespace Go.Proofs.Ytngddlihppomhaa.G
open Go.RowKit Go.Proofs.YtngddlihppomhaaW.PrintWords Go.Proofs.YtngddlihppomhaaW.PrintLast Go.Proofs.YtngddlihppomhaaW.PrintMore
attribute [local go_sem] max2_int min2_int max_two min_two max_three min_three max_four min_four   -- for this text's walks alone
set_option linter.unusedVariables false
set_option linter.unusedSimpArgs false

/-! ### cfa_Op_may: function 32 -/
-- GIVENBYHAND 
/-- may an op be? -/
def mayF (k r n : Int) : Bool :=
  if k = 0 ∨ k = 9 ∨ k = 10 then decide (r = 0) && decide (n = 0)
  else if k = 1 ∨ k = 3 then decide (r = 0) && (decide (0 ≤ n) && decide (n ≤ 2147483647))
  else if k = 2 then decide (0 ≤ r) && (decide (r ≤ 16) && (decide (0 ≤ n) && decide (n ≤ 2147483647)))
  else if k = 4 ∨ k = 6 ∨ k = 7 ∨ k = 8 then decide (n = 0) && (decide (0 ≤ r) && decide (r ≤ 16))
  else if k = 5 then decide (n.tmod 8 = 0) && (decide (0 ≤ r) && (decide (r ≤ 16) && (decide (-2147483648 ≤ n) && decide (n ≤ 2147483640))))
  else false
def cfa_Op_may.f (a0_0 a0_1 a0_2 : Int) : Option Bool := some (mayF a0_0 a0_1 a0_2)
theorem may_ne {a b : Int} (h : a ≠ b) : (a == b) = false ∧ (a != b) = true := ⟨beq_eq_false_iff_ne.mpr h, bne_iff_ne.mpr h⟩
theorem may_eq {a b : Int} (h : a = b) : (a == b) = true ∧ (a != b) = false := ⟨beq_iff_eq.mpr h, bne_eq_false_iff_eq.mpr h⟩
theorem cfa_Op_may.one (k r n : Int) (w : World) (hk : k = 0 ∨ k = 9 ∨ k = 10) :
    Calls Try.prog 32 #[.agg #[.int .i64 k, .int .i64 r, .int .i64 n]] w fun e w' => e = .returned (.bool (mayF k r n)) ∧ Below w.heap.size w w' := by
  by_cases hr : r = 0
  · subst hr
    by_cases hn : n = 0
    · subst hn
      rcases hk with rfl | rfl | rfl <;>
      · go_enter Try.func32, Try.ntmps32
        go_wp2
        go_ret
        exact ⟨rfl, below_alloc (Below.refl _ _) _⟩
    · obtain ⟨c1, c2⟩ := may_ne hn
      have e : mayF k 0 n = false := by rcases hk with rfl | rfl | rfl <;> simp [mayF, hn]
      rw [e]
      clear e hn
      rcases hk with rfl | rfl | rfl <;>
      · go_enter Try.func32, Try.ntmps32
        go_wp2
        go_ret
        exact ⟨rfl, below_alloc (Below.refl _ _) _⟩
  · obtain ⟨c1, c2⟩ := may_ne hr
    have e : mayF k r n = false := by rcases hk with rfl | rfl | rfl <;> simp [mayF, hr]
    rw [e]
    clear e hr
    rcases hk with rfl | rfl | rfl <;>
    · go_enter Try.func32, Try.ntmps32
      go_wp2
      go_ret
      exact ⟨rfl, below_alloc (Below.refl _ _) _⟩
theorem may_ge (a b : Int) : (∃ v, decide (b ≤ a) = v ∧ decide (a ≥ b) = v) := ⟨_, rfl, rfl⟩
theorem may_le (a b : Int) : (∃ v, decide (a ≤ b) = v) := ⟨_, rfl⟩
theorem cfa_Op_may.two (k r n : Int) (w : World) (hk : k = 1 ∨ k = 3) :
    Calls Try.prog 32 #[.agg #[.int .i64 k, .int .i64 r, .int .i64 n]] w fun e w' => e = .returned (.bool (mayF k r n)) ∧ Below w.heap.size w w' := by
  by_cases hr : r = 0
  · subst hr
    have e : mayF k 0 n = (decide (0 ≤ n) && decide (n ≤ 2147483647)) := by rcases hk with rfl | rfl <;> simp [mayF]
    rw [e]
    clear e
    obtain ⟨v1, h1, g1⟩ := may_ge n 0
    obtain ⟨v2, h2⟩ := may_le n 2147483647
    rw [h1, h2]
    clear h1
    cases v1 <;> cases v2 <;> rcases hk with rfl | rfl <;>
    · go_enter Try.func32, Try.ntmps32
      go_wp2
      go_ret
      exact ⟨rfl, below_alloc (Below.refl _ _) _⟩
  · obtain ⟨c1, c2⟩ := may_ne hr
    have e : mayF k r n = false := by rcases hk with rfl | rfl <;> simp [mayF, hr]
    rw [e]
    clear e hr
    rcases hk with rfl | rfl <;>
    · go_enter Try.func32, Try.ntmps32
      go_wp2
      go_ret
      exact ⟨rfl, below_alloc (Below.refl _ _) _⟩
set_option maxHeartbeats 4000000 in
theorem cfa_Op_may.three (r n : Int) (w : World) :
    Calls Try.prog 32 #[.agg #[.int .i64 2, .int .i64 r, .int .i64 n]] w fun e w' => e = .returned (.bool (mayF 2 r n)) ∧ Below w.heap.size w w' := by
  have e : mayF 2 r n = (decide (0 ≤ r) && (decide (r ≤ 16) && (decide (0 ≤ n) && decide (n ≤ 2147483647)))) := by simp [mayF]
  rw [e]
  clear e
  obtain ⟨v1, h1, g1⟩ := may_ge r 0
  obtain ⟨v2, h2⟩ := may_le r 16
  obtain ⟨v3, h3, g3⟩ := may_ge n 0
  obtain ⟨v4, h4⟩ := may_le n 2147483647
  rw [h1, h2, h3, h4]
  clear h1 h3
  cases v1 <;> cases v2 <;> cases v3 <;> cases v4 <;>
  · go_enter Try.func32, Try.ntmps32
    go_wp2
    go_ret
    exact ⟨rfl, below_alloc (Below.refl _ _) _⟩
set_option maxHeartbeats 4000000 in
theorem cfa_Op_may.four (k r n : Int) (w : World) (hk : k = 4 ∨ k = 6 ∨ k = 7 ∨ k = 8) :
    Calls Try.prog 32 #[.agg #[.int .i64 k, .int .i64 r, .int .i64 n]] w fun e w' => e = .returned (.bool (mayF k r n)) ∧ Below w.heap.size w w' := by
  by_cases hn : n = 0
  · subst hn
    have e : mayF k r 0 = (decide (0 ≤ r) && decide (r ≤ 16)) := by rcases hk with rfl | rfl | rfl | rfl <;> simp [mayF]
    rw [e]
    clear e
    obtain ⟨v1, h1, g1⟩ := may_ge r 0
    obtain ⟨v2, h2⟩ := may_le r 16
    rw [h1, h2]
    clear h1
    cases v1 <;> cases v2 <;> rcases hk with rfl | rfl | rfl | rfl <;>
    · go_enter Try.func32, Try.ntmps32
      go_wp2
      go_ret
      exact ⟨rfl, below_alloc (Below.refl _ _) _⟩
  · obtain ⟨c1, c2⟩ := may_ne hn
    have e : mayF k r n = false := by rcases hk with rfl | rfl | rfl | rfl <;> simp [mayF, hn]
    rw [e]
    clear e hn
    rcases hk with rfl | rfl | rfl | rfl <;>
    · go_enter Try.func32, Try.ntmps32
      go_wp2
      go_ret
      exact ⟨rfl, below_alloc (Below.refl _ _) _⟩
set_option maxHeartbeats 4000000 in
theorem cfa_Op_may.five (r n : Int) (w : World) :
    Calls Try.prog 32 #[.agg #[.int .i64 5, .int .i64 r, .int .i64 n]] w fun e w' => e = .returned (.bool (mayF 5 r n)) ∧ Below w.heap.size w w' := by
  have e : mayF 5 r n = (decide (n.tmod 8 = 0) && (decide (0 ≤ r) && (decide (r ≤ 16) && (decide (-2147483648 ≤ n) && decide (n ≤ 2147483640))))) := by simp [mayF]
  rw [e]
  clear e
  by_cases hm : n.tmod 8 = 0
  · obtain ⟨c1, c2⟩ := may_eq hm
    rw [decide_eq_true hm]
    obtain ⟨v1, h1, g1⟩ := may_ge r 0
    obtain ⟨v2, h2⟩ := may_le r 16
    obtain ⟨v3, h3, g3⟩ := may_ge n (-2147483648)
    obtain ⟨v4, h4⟩ := may_le n 2147483640
    rw [h1, h2, h3, h4]
    clear h1 h3 hm
    cases v1 <;> cases v2 <;> cases v3 <;> cases v4 <;>
    · go_enter Try.func32, Try.ntmps32
      go_wp2
      go_ret
      exact ⟨rfl, below_alloc (Below.refl _ _) _⟩
  · obtain ⟨c1, c2⟩ := may_ne hm
    rw [decide_eq_false hm]
    clear hm
    go_enter Try.func32, Try.ntmps32
    go_wp2
    go_ret
    exact ⟨rfl, below_alloc (Below.refl _ _) _⟩
theorem cfa_Op_may.none_ (k r n : Int) (w : World) (h0 : k ≠ 0) (h1 : k ≠ 1) (h2 : k ≠ 2) (h3 : k ≠ 3) (h4 : k ≠ 4) (h5 : k ≠ 5) (h6 : k ≠ 6) (h7 : k ≠ 7) (h8 : k ≠ 8) (h9 : k ≠ 9) (h10 : k ≠ 10) :
    Calls Try.prog 32 #[.agg #[.int .i64 k, .int .i64 r, .int .i64 n]] w fun e w' => e = .returned (.bool (mayF k r n)) ∧ Below w.heap.size w w' := by
  have e : mayF k r n = false := by simp [mayF, *]
  rw [e]
  clear e
  obtain ⟨c0, _⟩ := may_ne h0
  obtain ⟨c1, _⟩ := may_ne h1
  obtain ⟨c2, _⟩ := may_ne h2
  obtain ⟨c3, _⟩ := may_ne h3
  obtain ⟨c4, _⟩ := may_ne h4
  obtain ⟨c5, _⟩ := may_ne h5
  obtain ⟨c6, _⟩ := may_ne h6
  obtain ⟨c7, _⟩ := may_ne h7
  obtain ⟨c8, _⟩ := may_ne h8
  obtain ⟨c9, _⟩ := may_ne h9
  obtain ⟨c10, _⟩ := may_ne h10
  clear h0 h1 h2 h3 h4 h5 h6 h7 h8 h9 h10
  go_enter Try.func32, Try.ntmps32
  go_wp2
  go_ret
  exact ⟨rfl, below_alloc (Below.refl _ _) _⟩
theorem cfa_Op_may.calls (a0_0 a0_1 a0_2 : Int) (r : Bool) (w : World) (h : cfa_Op_may.f a0_0 a0_1 a0_2 = some r) :
    Calls Try.prog 32 #[.agg #[.int .i64 a0_0, .int .i64 a0_1, .int .i64 a0_2]] w fun e w' => e = .returned (.bool r) ∧ Below w.heap.size w w' := by
  obtain rfl := Option.some.inj h
  by_cases hA : a0_0 = 0 ∨ a0_0 = 9 ∨ a0_0 = 10
  · exact cfa_Op_may.one _ _ _ w hA
  by_cases hB : a0_0 = 1 ∨ a0_0 = 3
  · exact cfa_Op_may.two _ _ _ w hB
  by_cases hC : a0_0 = 2
  · subst hC
    exact cfa_Op_may.three _ _ w
  by_cases hD : a0_0 = 4 ∨ a0_0 = 6 ∨ a0_0 = 7 ∨ a0_0 = 8
  · exact cfa_Op_may.four _ _ _ w hD
  by_cases hE : a0_0 = 5
  · subst hE
    exact cfa_Op_may.five _ _ w
  exact cfa_Op_may.none_ _ _ _ w (by omega) (by omega) (by omega) (by omega) (by omega) (by omega) (by omega) (by omega) (by omega) (by omega) (by omega)


end Go.Proofs.Ytngddlihppomhaa.G
