/- What the reference's One does with its table: the ops that turn numbers. -/
import Derived.Test.YtngddlihppomhaaRefTab
import Derived.Test.YtngddlihppomhaaCfaOps
import Derived.Test.YtngddlihppomhaaGf34
namespace Go.Proofs.Ytngddlihppomhaa.CfaR
set_option linter.unusedVariables false
set_option linter.unusedSimpArgs false
open Go.RowKit Go.Proofs.Ytngddlihppomhaa.G Go.Proofs.YtngddlihppomhaaW.PrintWords Go.Proofs.YtngddlihppomhaaW.PrintLast Go.Proofs.YtngddlihppomhaaW.PrintMore Go.Proofs.Ytngddlihppomhaa.Cfa
theorem may_f (k r n : Int) (kk : Nat) (hk : 8 ≤ kk) : gangwayref13_May.f kk k r n = some (mayF k r n) := by
  obtain ⟨kk, rfl⟩ : ∃ m, kk = m + 1 + 1 + 1 + 1 + 1 := ⟨kk - 5, by omega⟩
  unfold gangwayref13_May.f mayF
  simp only [gangwayref13_May.j0, gangwayref13_May.j1, gangwayref13_May.j2, gangwayref13_May.j3, gangwayref13_May.j4]
  by_cases c0 : k = 0
  · subst c0; by_cases a : r = 0 <;> by_cases b : n = 0 <;> simp [a, b]
  by_cases c9 : k = 9
  · subst c9; by_cases a : r = 0 <;> by_cases b : n = 0 <;> simp [a, b]
  by_cases c10 : k = 10
  · subst c10; by_cases a : r = 0 <;> by_cases b : n = 0 <;> simp [a, b]
  by_cases c1 : k = 1
  · subst c1; by_cases a : r = 0 <;> by_cases b : 0 ≤ n <;> simp [a, b] <;> omega
  by_cases c3 : k = 3
  · subst c3; by_cases a : r = 0 <;> by_cases b : 0 ≤ n <;> simp [a, b] <;> omega
  by_cases c2 : k = 2
  · subst c2; by_cases a : 0 ≤ r <;> by_cases a2 : r ≤ 16 <;> by_cases b : 0 ≤ n <;> simp [a, a2, b] <;> omega
  by_cases c4 : k = 4
  · subst c4; by_cases a : 0 ≤ r <;> by_cases a2 : r ≤ 16 <;> by_cases b : n = 0 <;> simp [a, a2, b]
  by_cases c6 : k = 6
  · subst c6; by_cases a : 0 ≤ r <;> by_cases a2 : r ≤ 16 <;> by_cases b : n = 0 <;> simp [a, a2, b]
  by_cases c7 : k = 7
  · subst c7; by_cases a : 0 ≤ r <;> by_cases a2 : r ≤ 16 <;> by_cases b : n = 0 <;> simp [a, a2, b]
  by_cases c8 : k = 8
  · subst c8; by_cases a : 0 ≤ r <;> by_cases a2 : r ≤ 16 <;> by_cases b : n = 0 <;> simp [a, a2, b]
  by_cases c5 : k = 5
  · subst c5
    by_cases t : n.tmod 8 = 0
    · obtain ⟨m, rfl⟩ := Int.dvd_of_tmod_eq_zero t
      by_cases a : 0 ≤ r <;> by_cases a2 : r ≤ 16 <;> by_cases b : -2147483648 ≤ 8 * m <;> by_cases b2 : 8 * m < 2147483648 <;> simp [a, a2, b, b2, t] <;> omega
    · by_cases a : 0 ≤ r <;> by_cases a2 : r ≤ 16 <;> by_cases b : -2147483648 ≤ n <;> by_cases b2 : n < 2147483648 <;> simp [a, a2, b, b2, t]
  simp [c0, c9, c10, c1, c3, c2, c4, c6, c7, c8, c5]
theorem rmay_calls (k r n : Int) (w : World) : Calls Try.prog 34 #[.agg #[.int .i64 k, .int .i64 r, .int .i64 n]] w fun e w' => e = .returned (.bool (mayF k r n)) ∧ Below w.heap.size w w' :=
  gangwayref13_May.calls 8 k r n (mayF k r n) w (may_f k r n 8 (Nat.le_refl _))
/-- What One answers: whether the op may be there; if so, the table is turned. -/
def Post (base g : Nat) (w : World) (r : Option T) (e : Ending) (w' : World) : Prop :=
  e = .returned (.bool r.isSome) ∧ Below base w w' ∧ ∀ t', r = some t' → ∃ rv kv, Tab w' base g t' rv kv
section
variable {w w1 w' : World} {base g : Nat} {t t' : T} {rv kv : Value} {k r n : Int}
theorem Post.turn (h : Tab w1 base g t rv kv) (hb : base ≤ w.heap.size) (hg0 : w.grownBy w1 (some g)) (hg : w1.grownBy w' (some g)) (hm : mayF k r n = true) (e : act t k r n = some t') (hr : t'.rows = t.rows) (hk : t'.kept = t.kept)
    (hc : w'.heap[g]? = some (.cells (cells rv kv t').toArray 79 (0, 0))) : Post base g w (act t k r n) (.returned (.bool true)) w' := by
  rw [e]
  refine ⟨rfl, below_grown (World.grownBy.trans hg0 hg) hb h.lo, fun t2 e2 => ?_⟩
  cases e2
  exact ⟨rv, kv, h.turn hg (good_act h.good hm e) hc hr hk⟩
theorem Post.false (hb : Below base w w') (e : act t k r n = none) : Post base g w (act t k r n) (.returned (.bool false)) w' := by
  rw [e]
  exact ⟨rfl, hb, fun _ h => by cases h⟩
theorem now_at (h : Tab w base g t rv kv) (m : Nat) (hm : m ≤ 16) : (w.cell? ⟨g, 4 + m * 2, none⟩ = some (.int .i64 (t.now.getD (ru m) 0)) ∧ w.cell? ⟨g, 4 + m * 2 + 1, none⟩ = some (.int .i64 (t.now.getD (ru m + 1) 0))) ∧
    (w.frozen? ⟨g, 4 + m * 2, none⟩ = false ∧ w.frozen? ⟨g, 4 + m * 2 + 1, none⟩ = false) := by
  refine ⟨⟨?_, ?_⟩, h.free _, h.free _⟩
  · rw [← h.now (ru m) (by simp only [ru]; omega), show 1 + ru m = 4 + m * 2 from by simp only [ru]; omega]
  · rw [← h.now (ru m + 1) (by simp only [ru]; omega), show 1 + (ru m + 1) = 4 + m * 2 + 1 from by simp only [ru]; omega]
theorem set_rule (hb : w.heap[g]? = some (.cells (cells rv kv t).toArray 79 (0, 0))) (h : Cfa.Good t) (m : Nat) (hm : m ≤ 16) (x y : Int) :
    ((w.setCell ⟨g, 4 + m * 2, none⟩ (.int .i64 x)).setCell ⟨g, 4 + m * 2 + 1, none⟩ (.int .i64 y)).heap[g]? = some (.cells (cells rv kv { t with now := (t.now.set (ru m) x).set (ru m + 1) y }).toArray 79 (0, 0)) := by
  have h1 := set_now hb h (ru m) (by simp only [ru]; omega) x
  have h2 := set_now (t := { t with now := t.now.set (ru m) x }) h1 ⟨by simpa using h.now, h.first, h.rows, h.kept, by show 0 ≤ (t.now.set (ru m) x).getD 0 0; rw [Cfa.getD_set_ne (ru_ne _).1]; exact h.at0, h.size, by show _ → (t.now.set (ru m) x).getD 0 0 ≤ _; rw [Cfa.getD_set_ne (ru_ne _).1]; exact h.atS⟩ (ru m + 1) (by simp only [ru]; omega) y
  rw [show 1 + ru m = 4 + m * 2 from by simp only [ru]; omega, show 1 + (ru m + 1) = 4 + m * 2 + 1 from by simp only [ru]; omega] at h2
  exact h2
end
set_option maxRecDepth 100000 in
theorem one_bad (w : World) (base g : Nat) (hb : base ≤ w.heap.size) (k r n : Int) (b : Bool) (hm : mayF k r n = false) :
    Calls Try.prog 31 #[.pointer (some ⟨g, 0, none⟩), .agg #[.int .i64 k, .int .i64 r, .int .i64 n], .bool b] w (Post base g w none) := by
  have HM := Aside0.mk hm
  have HB := Aside0.mk hb
  clear hm hb
  go_enter Try.func31, Try.ntmps31
  go_wp2_with fail
  refine (rmay_calls k r n _).mono ?_
  rintro e w1 ⟨rfl, hw1⟩
  rw [HM.out]
  go_wp2
  go_ret
  exact ⟨rfl, (below_step (below_alloc (Below.refl w.heap.size w) _) hw1).mono HB.out, fun _ h => by cases h⟩
set_option maxRecDepth 100000 in
theorem one_early (w : World) (base g : Nat) (hb : base ≤ w.heap.size) (k r n : Int) (hm : mayF k r n = true) (hk : k = 1 ∨ k = 9 ∨ k = 10 ∨ k = 6) :
    Calls Try.prog 31 #[.pointer (some ⟨g, 0, none⟩), .agg #[.int .i64 k, .int .i64 r, .int .i64 n], .bool true] w (Post base g w none) := by
  rcases hk with rfl | rfl | rfl | rfl <;>
  · have HM := Aside0.mk hm
    have HB := Aside0.mk hb
    clear hm hb
    go_enter Try.func31, Try.ntmps31
    go_wp2_with fail
    refine (rmay_calls _ r n _).mono ?_
    rintro e w1 ⟨rfl, hw1⟩
    rw [HM.out]
    have HW1 := Aside0.mk hw1
    have hbx := blk_below (blk_new w _) hw1
    have o0 := (blk_cell hbx 0).trans rfl
    clear hw1 hbx
    go_wp2
    go_ret
    exact ⟨rfl, (below_step (below_alloc (Below.refl w.heap.size w) _) HW1.out).mono HB.out, fun _ h => by cases h⟩
set_option maxRecDepth 100000 in
theorem one_0 (w : World) (base g : Nat) (t : T) (rv kv : Value) (h : Tab w base g t rv kv) (hb : base ≤ w.heap.size) (r n : Int) (b : Bool) (hm : mayF 0 r n = true) :
    Calls Try.prog 31 #[.pointer (some ⟨g, 0, none⟩), .agg #[.int .i64 0, .int .i64 r, .int .i64 n], .bool b] w (Post base g w (act t 0 r n)) := by
  have HM := Aside0.mk hm
  have HB := Aside0.mk hb
  have BX := Aside0.mk (blk_new w (.cells #[.int .i64 0, .int .i64 r, .int .i64 n] 41))
  have HA := Aside0.mk (h.below (below_alloc (Below.refl w.heap.size w) (.cells #[.int .i64 0, .int .i64 r, .int .i64 n] 41)))
  have hg := blk_lt h.blk
  clear h hb hm
  go_enter Try.func31, Try.ntmps31
  go_wp2_with fail
  refine (rmay_calls 0 r n _).mono ?_
  rintro e w1 ⟨rfl, hw1⟩
  rw [HM.out]
  have HG := Aside0.mk (grown_below' (grown_alloc (World.grownBy.refl w (some g)) (.cells #[.int .i64 0, .int .i64 r, .int .i64 n] 41)) hw1)
  have H := Aside0.mk (HA.out.below hw1)
  have hbx := blk_below BX.out hw1
  have o0 : w1.cell? ⟨w.heap.size, 0, none⟩ = some (.int .i64 0) := (blk_cell hbx 0).trans rfl
  have o1 : w1.cell? ⟨w.heap.size, 1, none⟩ = some (.int .i64 r) := (blk_cell hbx 1).trans rfl
  have o2 : w1.cell? ⟨w.heap.size, 2, none⟩ = some (.int .i64 n) := (blk_cell hbx 2).trans rfl
  clear hw1 BX HA hbx
  have HS := Aside0.mk H.out.blk
  cases b <;>
  · go_wp2
    go_ret
    exact Post.turn H.out HB.out HG.out (World.grownBy.refl _ _) HM.out rfl rfl rfl HS.out
set_option maxRecDepth 100000 in
theorem one_5 (w : World) (base g : Nat) (t : T) (rv kv : Value) (h : Tab w base g t rv kv) (hb : base ≤ w.heap.size) (r n : Int) (b : Bool) (hm : mayF 5 r n = true) :
    Calls Try.prog 31 #[.pointer (some ⟨g, 0, none⟩), .agg #[.int .i64 5, .int .i64 r, .int .i64 n], .bool b] w (Post base g w (act t 5 r n)) := by
  have HR := Aside0.mk (may_r hm)
  have HM := Aside0.mk hm
  have HB := Aside0.mk hb
  have BX := Aside0.mk (blk_new w (.cells #[.int .i64 5, .int .i64 r, .int .i64 n] 41))
  have HA := Aside0.mk (h.below (below_alloc (Below.refl w.heap.size w) (.cells #[.int .i64 5, .int .i64 r, .int .i64 n] 41)))
  have hg := blk_lt h.blk
  clear h hb hm
  go_enter Try.func31, Try.ntmps31
  go_wp2_with fail
  refine (rmay_calls 5 r n _).mono ?_
  rintro e w1 ⟨rfl, hw1⟩
  rw [HM.out]
  have HG := Aside0.mk (grown_below' (grown_alloc (World.grownBy.refl w (some g)) (.cells #[.int .i64 5, .int .i64 r, .int .i64 n] 41)) hw1)
  have H := Aside0.mk (HA.out.below hw1)
  have hbx := blk_below BX.out hw1
  have o0 : w1.cell? ⟨w.heap.size, 0, none⟩ = some (.int .i64 5) := (blk_cell hbx 0).trans rfl
  have o1 : w1.cell? ⟨w.heap.size, 1, none⟩ = some (.int .i64 r) := (blk_cell hbx 1).trans rfl
  have o2 : w1.cell? ⟨w.heap.size, 2, none⟩ = some (.int .i64 n) := (blk_cell hbx 2).trans rfl
  clear hw1 BX HA hbx
  have hr0 := HR.out.1
  obtain ⟨m, rfl⟩ := Int.eq_ofNat_of_zero_le hr0
  have H1 := Aside0.mk (show m ≤ 16 from by have := HR.out.2; omega)
  obtain ⟨⟨f1, f2⟩, f3, f4⟩ := now_at H.out m H1.out
  have hix := rule_at g 4 m H1.out
  clear hr0 HR
  have HS := Aside0.mk (set_rule H.out.blk H.out.good m H1.out 2 n)
  cases b <;>
  · go_wp2
    refine still_tail 10 (by kernel_rfl) (by kernel_rfl) ?_
    simp only [List.take_succ_cons, List.take_zero, List.drop_succ_cons, List.drop_zero]
    repeat still_step
    refine wpStill_nil ?_
    go_wp2
    go_ret
    exact Post.turn H.out HB.out HG.out (grown_drew (grown_set' (grown_set _ _ _ _) _ _)) HM.out rfl rfl rfl HS.out
set_option maxRecDepth 100000 in
theorem one_7 (w : World) (base g : Nat) (t : T) (rv kv : Value) (h : Tab w base g t rv kv) (hb : base ≤ w.heap.size) (r n : Int) (b : Bool) (hm : mayF 7 r n = true) :
    Calls Try.prog 31 #[.pointer (some ⟨g, 0, none⟩), .agg #[.int .i64 7, .int .i64 r, .int .i64 n], .bool b] w (Post base g w (act t 7 r n)) := by
  have HR := Aside0.mk (may_r hm)
  have HM := Aside0.mk hm
  have HB := Aside0.mk hb
  have BX := Aside0.mk (blk_new w (.cells #[.int .i64 7, .int .i64 r, .int .i64 n] 41))
  have HA := Aside0.mk (h.below (below_alloc (Below.refl w.heap.size w) (.cells #[.int .i64 7, .int .i64 r, .int .i64 n] 41)))
  have hg := blk_lt h.blk
  clear h hb hm
  go_enter Try.func31, Try.ntmps31
  go_wp2_with fail
  refine (rmay_calls 7 r n _).mono ?_
  rintro e w1 ⟨rfl, hw1⟩
  rw [HM.out]
  have HG := Aside0.mk (grown_below' (grown_alloc (World.grownBy.refl w (some g)) (.cells #[.int .i64 7, .int .i64 r, .int .i64 n] 41)) hw1)
  have H := Aside0.mk (HA.out.below hw1)
  have hbx := blk_below BX.out hw1
  have o0 : w1.cell? ⟨w.heap.size, 0, none⟩ = some (.int .i64 7) := (blk_cell hbx 0).trans rfl
  have o1 : w1.cell? ⟨w.heap.size, 1, none⟩ = some (.int .i64 r) := (blk_cell hbx 1).trans rfl
  have o2 : w1.cell? ⟨w.heap.size, 2, none⟩ = some (.int .i64 n) := (blk_cell hbx 2).trans rfl
  clear hw1 BX HA hbx
  have hr0 := HR.out.1
  obtain ⟨m, rfl⟩ := Int.eq_ofNat_of_zero_le hr0
  have H1 := Aside0.mk (show m ≤ 16 from by have := HR.out.2; omega)
  obtain ⟨⟨f1, f2⟩, f3, f4⟩ := now_at H.out m H1.out
  have hix := rule_at g 4 m H1.out
  clear hr0 HR
  have HS := Aside0.mk (set_rule H.out.blk H.out.good m H1.out 1 0)
  cases b <;>
  · go_wp2
    refine still_tail 8 (by kernel_rfl) (by kernel_rfl) ?_
    simp only [List.take_succ_cons, List.take_zero, List.drop_succ_cons, List.drop_zero]
    repeat still_step
    refine wpStill_nil ?_
    go_wp2
    go_ret
    exact Post.turn H.out HB.out HG.out (grown_drew (grown_set' (grown_set _ _ _ _) _ _)) HM.out rfl rfl rfl HS.out
set_option maxRecDepth 100000 in
theorem one_8 (w : World) (base g : Nat) (t : T) (rv kv : Value) (h : Tab w base g t rv kv) (hb : base ≤ w.heap.size) (r n : Int) (b : Bool) (hm : mayF 8 r n = true) :
    Calls Try.prog 31 #[.pointer (some ⟨g, 0, none⟩), .agg #[.int .i64 8, .int .i64 r, .int .i64 n], .bool b] w (Post base g w (act t 8 r n)) := by
  have HR := Aside0.mk (may_r hm)
  have HM := Aside0.mk hm
  have HB := Aside0.mk hb
  have BX := Aside0.mk (blk_new w (.cells #[.int .i64 8, .int .i64 r, .int .i64 n] 41))
  have HA := Aside0.mk (h.below (below_alloc (Below.refl w.heap.size w) (.cells #[.int .i64 8, .int .i64 r, .int .i64 n] 41)))
  have hg := blk_lt h.blk
  clear h hb hm
  go_enter Try.func31, Try.ntmps31
  go_wp2_with fail
  refine (rmay_calls 8 r n _).mono ?_
  rintro e w1 ⟨rfl, hw1⟩
  rw [HM.out]
  have HG := Aside0.mk (grown_below' (grown_alloc (World.grownBy.refl w (some g)) (.cells #[.int .i64 8, .int .i64 r, .int .i64 n] 41)) hw1)
  have H := Aside0.mk (HA.out.below hw1)
  have hbx := blk_below BX.out hw1
  have o0 : w1.cell? ⟨w.heap.size, 0, none⟩ = some (.int .i64 8) := (blk_cell hbx 0).trans rfl
  have o1 : w1.cell? ⟨w.heap.size, 1, none⟩ = some (.int .i64 r) := (blk_cell hbx 1).trans rfl
  have o2 : w1.cell? ⟨w.heap.size, 2, none⟩ = some (.int .i64 n) := (blk_cell hbx 2).trans rfl
  clear hw1 BX HA hbx
  have hr0 := HR.out.1
  obtain ⟨m, rfl⟩ := Int.eq_ofNat_of_zero_le hr0
  have H1 := Aside0.mk (show m ≤ 16 from by have := HR.out.2; omega)
  obtain ⟨⟨f1, f2⟩, f3, f4⟩ := now_at H.out m H1.out
  have hix := rule_at g 4 m H1.out
  clear hr0 HR
  have HS := Aside0.mk (set_rule H.out.blk H.out.good m H1.out 0 0)
  cases b <;>
  · go_wp2
    refine still_tail 8 (by kernel_rfl) (by kernel_rfl) ?_
    simp only [List.take_succ_cons, List.take_zero, List.drop_succ_cons, List.drop_zero]
    repeat still_step
    refine wpStill_nil ?_
    go_wp2
    go_ret
    exact Post.turn H.out HB.out HG.out (grown_drew (grown_set' (grown_set _ _ _ _) _ _)) HM.out rfl rfl rfl HS.out
set_option maxRecDepth 100000 in
theorem one_2 (w : World) (base g : Nat) (t : T) (rv kv : Value) (h : Tab w base g t rv kv) (hb : base ≤ w.heap.size) (r n : Int) (b : Bool) (hm : mayF 2 r n = true) :
    Calls Try.prog 31 #[.pointer (some ⟨g, 0, none⟩), .agg #[.int .i64 2, .int .i64 r, .int .i64 n], .bool b] w (Post base g w (act t 2 r n)) := by
  have HM := Aside0.mk hm
  have HB := Aside0.mk hb
  have BX := Aside0.mk (blk_new w (.cells #[.int .i64 2, .int .i64 r, .int .i64 n] 41))
  have HA := Aside0.mk (h.below (below_alloc (Below.refl w.heap.size w) (.cells #[.int .i64 2, .int .i64 r, .int .i64 n] 41)))
  have hg := blk_lt h.blk
  clear h hb hm
  go_enter Try.func31, Try.ntmps31
  go_wp2_with fail
  refine (rmay_calls 2 r n _).mono ?_
  rintro e w1 ⟨rfl, hw1⟩
  rw [HM.out]
  have HG := Aside0.mk (grown_below' (grown_alloc (World.grownBy.refl w (some g)) (.cells #[.int .i64 2, .int .i64 r, .int .i64 n] 41)) hw1)
  have H := Aside0.mk (HA.out.below hw1)
  have hbx := blk_below BX.out hw1
  have o0 : w1.cell? ⟨w.heap.size, 0, none⟩ = some (.int .i64 2) := (blk_cell hbx 0).trans rfl
  have o1 : w1.cell? ⟨w.heap.size, 1, none⟩ = some (.int .i64 r) := (blk_cell hbx 1).trans rfl
  have o2 : w1.cell? ⟨w.heap.size, 2, none⟩ = some (.int .i64 n) := (blk_cell hbx 2).trans rfl
  clear hw1 BX HA hbx
  have f1 : w1.cell? ⟨g, 2, none⟩ = some (.int .i64 (t.now.getD 1 0)) := H.out.now 1 (by omega)
  have f2 : w1.cell? ⟨g, 3, none⟩ = some (.int .i64 (t.now.getD 2 0)) := H.out.now 2 (by omega)
  have f3 := H.out.free 2
  have f4 := H.out.free 3
  have HS := Aside0.mk (set_now (set_now H.out.blk H.out.good 1 (by omega) r) (good_set1 H.out.good r) 2 (by omega) n)
  cases b <;>
  · go_wp2
    go_ret
    exact Post.turn H.out HB.out HG.out (grown_set' (grown_set _ _ _ _) _ _) HM.out rfl rfl rfl HS.out
set_option maxRecDepth 100000 in
theorem one_3 (w : World) (base g : Nat) (t : T) (rv kv : Value) (h : Tab w base g t rv kv) (hb : base ≤ w.heap.size) (r n : Int) (b : Bool) (hm : mayF 3 r n = true) :
    Calls Try.prog 31 #[.pointer (some ⟨g, 0, none⟩), .agg #[.int .i64 3, .int .i64 r, .int .i64 n], .bool b] w (Post base g w (act t 3 r n)) := by
  have HM := Aside0.mk hm
  have HB := Aside0.mk hb
  have BX := Aside0.mk (blk_new w (.cells #[.int .i64 3, .int .i64 r, .int .i64 n] 41))
  have HA := Aside0.mk (h.below (below_alloc (Below.refl w.heap.size w) (.cells #[.int .i64 3, .int .i64 r, .int .i64 n] 41)))
  have hg := blk_lt h.blk
  clear h hb hm
  go_enter Try.func31, Try.ntmps31
  go_wp2_with fail
  refine (rmay_calls 3 r n _).mono ?_
  rintro e w1 ⟨rfl, hw1⟩
  rw [HM.out]
  have HG := Aside0.mk (grown_below' (grown_alloc (World.grownBy.refl w (some g)) (.cells #[.int .i64 3, .int .i64 r, .int .i64 n] 41)) hw1)
  have H := Aside0.mk (HA.out.below hw1)
  have hbx := blk_below BX.out hw1
  have o0 : w1.cell? ⟨w.heap.size, 0, none⟩ = some (.int .i64 3) := (blk_cell hbx 0).trans rfl
  have o1 : w1.cell? ⟨w.heap.size, 1, none⟩ = some (.int .i64 r) := (blk_cell hbx 1).trans rfl
  have o2 : w1.cell? ⟨w.heap.size, 2, none⟩ = some (.int .i64 n) := (blk_cell hbx 2).trans rfl
  clear hw1 BX HA hbx
  have f1 : w1.cell? ⟨g, 2, none⟩ = some (.int .i64 (t.now.getD 1 0)) := H.out.now 1 (by omega)
  have f2 : w1.cell? ⟨g, 3, none⟩ = some (.int .i64 (t.now.getD 2 0)) := H.out.now 2 (by omega)
  have f3 := H.out.free 2
  have f4 := H.out.free 3
  have e : act t 3 r n = if 0 ≤ t.now.getD 1 0 then some { t with now := t.now.set 2 n } else none := rfl
  have HS := Aside0.mk (set_now H.out.blk H.out.good 2 (by omega) n)
  obtain ⟨x, hx⟩ : ∃ x, t.now.getD 1 0 = x := ⟨_, rfl⟩
  rw [hx] at f1 e
  have HE := Aside0.mk e
  obtain ⟨v, h1, g1⟩ := may_ge x 0
  have H1 := Aside0.mk h1
  clear h1 e hx
  have hgr : w1.grownBy (w1.setCell ⟨g, 1 + 2, none⟩ (.int .i64 n)) (some g) := grown_set _ _ _ _
  have HGR := Aside0.mk hgr
  clear hgr
  cases b <;>
  · go_wp2
    go_ret
    have he := HE.out
    have h1 := H1.out
    cases v with
    | true =>
      rw [if_pos (of_decide_eq_true h1)] at he
      exact Post.turn H.out HB.out HG.out HGR.out HM.out he rfl rfl HS.out
    | false =>
      rw [if_neg (of_decide_eq_false h1)] at he
      exact Post.false (below_grown (World.grownBy.trans HG.out HGR.out) HB.out H.out.lo) he
set_option maxRecDepth 100000 in
theorem one_4 (w : World) (base g : Nat) (t : T) (rv kv : Value) (h : Tab w base g t rv kv) (hb : base ≤ w.heap.size) (r n : Int) (b : Bool) (hm : mayF 4 r n = true) :
    Calls Try.prog 31 #[.pointer (some ⟨g, 0, none⟩), .agg #[.int .i64 4, .int .i64 r, .int .i64 n], .bool b] w (Post base g w (act t 4 r n)) := by
  have HM := Aside0.mk hm
  have HB := Aside0.mk hb
  have BX := Aside0.mk (blk_new w (.cells #[.int .i64 4, .int .i64 r, .int .i64 n] 41))
  have HA := Aside0.mk (h.below (below_alloc (Below.refl w.heap.size w) (.cells #[.int .i64 4, .int .i64 r, .int .i64 n] 41)))
  have hg := blk_lt h.blk
  clear h hb hm
  go_enter Try.func31, Try.ntmps31
  go_wp2_with fail
  refine (rmay_calls 4 r n _).mono ?_
  rintro e w1 ⟨rfl, hw1⟩
  rw [HM.out]
  have HG := Aside0.mk (grown_below' (grown_alloc (World.grownBy.refl w (some g)) (.cells #[.int .i64 4, .int .i64 r, .int .i64 n] 41)) hw1)
  have H := Aside0.mk (HA.out.below hw1)
  have hbx := blk_below BX.out hw1
  have o0 : w1.cell? ⟨w.heap.size, 0, none⟩ = some (.int .i64 4) := (blk_cell hbx 0).trans rfl
  have o1 : w1.cell? ⟨w.heap.size, 1, none⟩ = some (.int .i64 r) := (blk_cell hbx 1).trans rfl
  have o2 : w1.cell? ⟨w.heap.size, 2, none⟩ = some (.int .i64 n) := (blk_cell hbx 2).trans rfl
  clear hw1 BX HA hbx
  have f1 : w1.cell? ⟨g, 2, none⟩ = some (.int .i64 (t.now.getD 1 0)) := H.out.now 1 (by omega)
  have f2 : w1.cell? ⟨g, 3, none⟩ = some (.int .i64 (t.now.getD 2 0)) := H.out.now 2 (by omega)
  have f3 := H.out.free 2
  have f4 := H.out.free 3
  have e : act t 4 r n = if 0 ≤ t.now.getD 1 0 then some { t with now := t.now.set 1 r } else none := rfl
  have HS := Aside0.mk (set_now H.out.blk H.out.good 1 (by omega) r)
  obtain ⟨x, hx⟩ : ∃ x, t.now.getD 1 0 = x := ⟨_, rfl⟩
  rw [hx] at f1 e
  have HE := Aside0.mk e
  obtain ⟨v, h1, g1⟩ := may_ge x 0
  have H1 := Aside0.mk h1
  clear h1 e hx
  have hgr : w1.grownBy (w1.setCell ⟨g, 1 + 1, none⟩ (.int .i64 r)) (some g) := grown_set _ _ _ _
  have HGR := Aside0.mk hgr
  clear hgr
  cases b <;>
  · go_wp2
    go_ret
    have he := HE.out
    have h1 := H1.out
    cases v with
    | true =>
      rw [if_pos (of_decide_eq_true h1)] at he
      exact Post.turn H.out HB.out HG.out HGR.out HM.out he rfl rfl HS.out
    | false =>
      rw [if_neg (of_decide_eq_false h1)] at he
      exact Post.false (below_grown (World.grownBy.trans HG.out HGR.out) HB.out H.out.lo) he
set_option maxRecDepth 100000 in
theorem one_6 (w : World) (base g : Nat) (t : T) (rv kv : Value) (h : Tab w base g t rv kv) (hb : base ≤ w.heap.size) (r n : Int) (hm : mayF 6 r n = true) :
    Calls Try.prog 31 #[.pointer (some ⟨g, 0, none⟩), .agg #[.int .i64 6, .int .i64 r, .int .i64 n], .bool false] w (Post base g w (act t 6 r n)) := by
  have HR := Aside0.mk (may_r hm)
  have HM := Aside0.mk hm
  have HB := Aside0.mk hb
  have BX := Aside0.mk (blk_new w (.cells #[.int .i64 6, .int .i64 r, .int .i64 n] 41))
  have HA := Aside0.mk (h.below (below_alloc (Below.refl w.heap.size w) (.cells #[.int .i64 6, .int .i64 r, .int .i64 n] 41)))
  have hg := blk_lt h.blk
  clear h hb hm
  go_enter Try.func31, Try.ntmps31
  go_wp2_with fail
  refine (rmay_calls 6 r n _).mono ?_
  rintro e w1 ⟨rfl, hw1⟩
  rw [HM.out]
  have HG := Aside0.mk (grown_below' (grown_alloc (World.grownBy.refl w (some g)) (.cells #[.int .i64 6, .int .i64 r, .int .i64 n] 41)) hw1)
  have H := Aside0.mk (HA.out.below hw1)
  have hbx := blk_below BX.out hw1
  have o0 : w1.cell? ⟨w.heap.size, 0, none⟩ = some (.int .i64 6) := (blk_cell hbx 0).trans rfl
  have o1 : w1.cell? ⟨w.heap.size, 1, none⟩ = some (.int .i64 r) := (blk_cell hbx 1).trans rfl
  have o2 : w1.cell? ⟨w.heap.size, 2, none⟩ = some (.int .i64 n) := (blk_cell hbx 2).trans rfl
  clear hw1 BX HA hbx
  have hr0 := HR.out.1
  obtain ⟨m, rfl⟩ := Int.eq_ofNat_of_zero_le hr0
  have H1 := Aside0.mk (show m ≤ 16 from by have := HR.out.2; omega)
  obtain ⟨⟨f1, f2⟩, f3, f4⟩ := now_at H.out m H1.out
  have hix := rule_at g 4 m H1.out
  clear hr0 HR
  have hiy := rule_at g 41 m H1.out
  have f5 : w1.cell? ⟨g, 41 + m * 2, none⟩ = some (.int .i64 (t.first.getD (ru m) 0)) := by rw [← H.out.first (ru m) (by have := H1.out; simp only [ru]; omega), show 38 + ru m = 41 + m * 2 from by simp only [ru]; omega]
  have f6 : w1.cell? ⟨g, 41 + m * 2 + 1, none⟩ = some (.int .i64 (t.first.getD (ru m + 1) 0)) := by rw [← H.out.first (ru m + 1) (by have := H1.out; simp only [ru]; omega), show 38 + (ru m + 1) = 41 + m * 2 + 1 from by simp only [ru]; omega]
  have e : act t 6 m n = some { t with now := (t.now.set (ru m) (t.first.getD (ru m) 0)).set (ru m + 1) (t.first.getD (ru m + 1) 0) } := rfl
  have hs := set_rule H.out.blk H.out.good m H1.out (t.first.getD (ru m) 0) (t.first.getD (ru m + 1) 0)
  obtain ⟨x, hx⟩ : ∃ x, t.first.getD (ru m) 0 = x := ⟨_, rfl⟩
  obtain ⟨y, hy⟩ : ∃ y, t.first.getD (ru m + 1) 0 = y := ⟨_, rfl⟩
  rw [hx, hy] at e hs
  rw [hx] at f5
  rw [hy] at f6
  have HS := Aside0.mk hs
  have HE := Aside0.mk e
  clear hs e hx hy
  go_wp2
  refine still_tail 15 (by kernel_rfl) (by kernel_rfl) ?_
  simp only [List.take_succ_cons, List.take_zero, List.drop_succ_cons, List.drop_zero]
  repeat still_step
  refine wpStill_nil ?_
  go_wp2
  go_ret
  exact Post.turn H.out HB.out HG.out (grown_drew (grown_set' (grown_set _ _ _ _) _ _)) HM.out HE.out rfl rfl HS.out
end Go.Proofs.Ytngddlihppomhaa.CfaR
