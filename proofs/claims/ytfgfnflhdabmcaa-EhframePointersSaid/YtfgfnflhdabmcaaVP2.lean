/- Lemmas and contracts, one text behind the other: what the row of this claim needs; no conditions beyond those that each theorem names. -/
import Derived.Outline
import Derived.Laws.EntriesVeiled
import Derived.Test.YtfgfnflhdabmcaaVP1
section
namespace Go.Proofs.Ytfgfnflhdabmcaa.Cfa
set_option linter.unusedVariables false
set_option linter.unusedSimpArgs false
open Go.RowKit Go.Proofs.Ytfgfnflhdabmcaa.G Go.Proofs.YtfgfnflhdabmcaaW.PrintWords Go.Proofs.YtfgfnflhdabmcaaW.PrintLast Go.Proofs.YtfgfnflhdabmcaaW.PrintMore
/-- What a method answers: whether the op may be there; if so, the table is turned. -/
def Post (base g : Nat) (w : World) (r : Option T) (e : Ending) (w' : World) : Prop :=
  e = .returned (.bool r.isSome) ∧ Below base w w' ∧ ∀ t', r = some t' → ∃ rv kv, Tab w' base g t' rv kv
section
variable {w w' : World} {base g : Nat} {t t' : T} {rv kv : Value} {k r n : Int}
theorem Post.turn (h : Tab w base g t rv kv) (hb : base ≤ w.heap.size) (hg : w.grownBy w' (some g)) (hm : mayF k r n = true) (e : act t k r n = some t') (hr : t'.rows = t.rows) (hk : t'.kept = t.kept)
    (hc : w'.heap[g]? = some (.cells (cells rv kv t').toArray 147 (0, 0))) : Post base g w (act t k r n) (.returned (.bool true)) w' := by
  rw [e]
  refine ⟨rfl, below_grown hg hb h.lo, fun t2 e2 => ?_⟩
  cases e2
  exact ⟨rv, kv, h.turn hg (good_act h.good hm e) hc hr hk⟩
theorem Post.false (hb : Below base w w') (e : act t k r n = none) : Post base g w (act t k r n) (.returned (.bool false)) w' := by
  rw [e]
  exact ⟨rfl, hb, fun _ h => by cases h⟩
theorem now_at (h : Tab w base g t rv kv) (m : Nat) (hm : m ≤ 16) : (w.cell? ⟨g, 4 + m * 2, none⟩ = some (.int .i64 (t.now.getD (ru m) 0)) ∧ w.cell? ⟨g, 4 + m * 2 + 1, none⟩ = some (.int .i64 (t.now.getD (ru m + 1) 0))) ∧
    (w.frozen? ⟨g, 4 + m * 2, none⟩ = false ∧ w.frozen? ⟨g, 4 + m * 2 + 1, none⟩ = false) := by
  refine ⟨⟨?_, ?_⟩, h.free _, h.free _⟩
  · rw [← h.now (ru m) (by simp only [ru]; omega), show 1 + ru m = 4 + m * 2 from by simp only [ru]; omega]
  · rw [← h.now (ru m + 1) (by simp only [ru]; omega), show 1 + (ru m + 1) = 4 + m * 2 + 1 from by simp only [ru]; omega]
theorem set_rule (hb : w.heap[g]? = some (.cells (cells rv kv t).toArray 147 (0, 0))) (h : Good t) (m : Nat) (hm : m ≤ 16) (x y : Int) :
    ((w.setCell ⟨g, 4 + m * 2, none⟩ (.int .i64 x)).setCell ⟨g, 4 + m * 2 + 1, none⟩ (.int .i64 y)).heap[g]? = some (.cells (cells rv kv { t with now := (t.now.set (ru m) x).set (ru m + 1) y }).toArray 147 (0, 0)) := by
  have h1 := set_now hb h (ru m) (by simp only [ru]; omega) x
  have h2 := set_now (t := { t with now := t.now.set (ru m) x }) h1 ⟨by simpa using h.now, h.first, h.rows, h.kept, by show 0 ≤ (t.now.set (ru m) x).getD 0 0; rw [getD_set_ne (ru_ne _).1]; exact h.at0, h.size, by show _ → (t.now.set (ru m) x).getD 0 0 ≤ _; rw [getD_set_ne (ru_ne _).1]; exact h.atS⟩ (ru m + 1) (by simp only [ru]; omega) y
  rw [show 1 + ru m = 4 + m * 2 from by simp only [ru]; omega, show 1 + (ru m + 1) = 4 + m * 2 + 1 from by simp only [ru]; omega] at h2
  exact h2
theorem good_set1 (h : Good t) (x : Int) : Good { t with now := t.now.set 1 x } :=
  ⟨by simpa using h.now, h.first, h.rows, h.kept, by show 0 ≤ (t.now.set 1 x).getD 0 0; rw [getD_set_ne (by decide)]; exact h.at0, h.size, by show _ → (t.now.set 1 x).getD 0 0 ≤ _; rw [getD_set_ne (by decide)]; exact h.atS⟩
end
theorem nop_calls (w : World) (base g : Nat) (t : T) (rv kv : Value) (h : Tab w base g t rv kv) (hb : base ≤ w.heap.size) (r n : Int) (hm : mayF 0 r n = true) :
    Calls Try.prog 95 #[.pointer (some ⟨g, 0, none⟩), .agg #[.int .i64 0, .int .i64 r, .int .i64 n]] w (Post base g w (act t 0 r n)) := by
  go_enter Try.func95, Try.ntmps95
  go_wp2
  go_ret
  exact Post.turn h hb (grown_alloc (World.grownBy.refl _ _) _) hm rfl rfl rfl (blk_alloc h.blk _)
set_option maxRecDepth 100000 in
theorem offset_calls (w : World) (base g : Nat) (t : T) (rv kv : Value) (h : Tab w base g t rv kv) (hb : base ≤ w.heap.size) (r n : Int) (hm : mayF 5 r n = true) :
    Calls Try.prog 100 #[.pointer (some ⟨g, 0, none⟩), .agg #[.int .i64 5, .int .i64 r, .int .i64 n]] w (Post base g w (act t 5 r n)) := by
  obtain ⟨hr0, hr1⟩ := may_r hm
  obtain ⟨m, rfl⟩ := Int.eq_ofNat_of_zero_le hr0
  obtain ⟨⟨f1, f2⟩, f3, f4⟩ := now_at h m (by omega)
  have hg := blk_lt h.blk
  have H := Aside0.mk h
  have HM := Aside0.mk hm
  have hix := rule_at g 4 m (by omega)
  have H1 := Aside0.mk hr1
  have HB := Aside0.mk hb
  clear h hb hm hr0 hr1
  go_enter Try.func100, Try.ntmps100
  go_wp2
  refine still_tail 10 (by kernel_rfl) (by kernel_rfl) ?_
  simp only [List.take_succ_cons, List.take_zero, List.drop_succ_cons, List.drop_zero]
  repeat still_step
  refine wpStill_nil ?_
  go_wp2
  go_ret
  exact Post.turn H.out HB.out (grown_drew (grown_alloc (grown_set' (grown_set _ _ _ _) _ _) _)) HM.out rfl rfl rfl (blk_alloc (set_rule H.out.blk H.out.good m (by have := H1.out; omega) 2 n) _)
set_option maxRecDepth 100000 in
theorem undefined_calls (w : World) (base g : Nat) (t : T) (rv kv : Value) (h : Tab w base g t rv kv) (hb : base ≤ w.heap.size) (r n : Int) (hm : mayF 7 r n = true) :
    Calls Try.prog 102 #[.pointer (some ⟨g, 0, none⟩), .agg #[.int .i64 7, .int .i64 r, .int .i64 n]] w (Post base g w (act t 7 r n)) := by
  obtain ⟨hr0, hr1⟩ := may_r hm
  obtain ⟨m, rfl⟩ := Int.eq_ofNat_of_zero_le hr0
  obtain ⟨⟨f1, f2⟩, f3, f4⟩ := now_at h m (by omega)
  have hg := blk_lt h.blk
  have H := Aside0.mk h
  have HM := Aside0.mk hm
  have hix := rule_at g 4 m (by omega)
  have H1 := Aside0.mk hr1
  have HB := Aside0.mk hb
  clear h hb hm hr0 hr1
  go_enter Try.func102, Try.ntmps102
  go_wp2
  refine still_tail 8 (by kernel_rfl) (by kernel_rfl) ?_
  simp only [List.take_succ_cons, List.take_zero, List.drop_succ_cons, List.drop_zero]
  repeat still_step
  refine wpStill_nil ?_
  go_wp2
  go_ret
  exact Post.turn H.out HB.out (grown_drew (grown_alloc (grown_set' (grown_set _ _ _ _) _ _) _)) HM.out rfl rfl rfl (blk_alloc (set_rule H.out.blk H.out.good m (by have := H1.out; omega) 1 0) _)
set_option maxRecDepth 100000 in
theorem sameValue_calls (w : World) (base g : Nat) (t : T) (rv kv : Value) (h : Tab w base g t rv kv) (hb : base ≤ w.heap.size) (r n : Int) (hm : mayF 8 r n = true) :
    Calls Try.prog 103 #[.pointer (some ⟨g, 0, none⟩), .agg #[.int .i64 8, .int .i64 r, .int .i64 n]] w (Post base g w (act t 8 r n)) := by
  obtain ⟨hr0, hr1⟩ := may_r hm
  obtain ⟨m, rfl⟩ := Int.eq_ofNat_of_zero_le hr0
  obtain ⟨⟨f1, f2⟩, f3, f4⟩ := now_at h m (by omega)
  have hg := blk_lt h.blk
  have H := Aside0.mk h
  have HM := Aside0.mk hm
  have hix := rule_at g 4 m (by omega)
  have H1 := Aside0.mk hr1
  have HB := Aside0.mk hb
  clear h hb hm hr0 hr1
  go_enter Try.func103, Try.ntmps103
  go_wp2
  refine still_tail 8 (by kernel_rfl) (by kernel_rfl) ?_
  simp only [List.take_succ_cons, List.take_zero, List.drop_succ_cons, List.drop_zero]
  repeat still_step
  refine wpStill_nil ?_
  go_wp2
  go_ret
  exact Post.turn H.out HB.out (grown_drew (grown_alloc (grown_set' (grown_set _ _ _ _) _ _) _)) HM.out rfl rfl rfl (blk_alloc (set_rule H.out.blk H.out.good m (by have := H1.out; omega) 0 0) _)
set_option maxRecDepth 100000 in
theorem defOffset_calls (w : World) (base g : Nat) (t : T) (rv kv : Value) (h : Tab w base g t rv kv) (hb : base ≤ w.heap.size) (r n : Int) (hm : mayF 3 r n = true) :
    Calls Try.prog 98 #[.pointer (some ⟨g, 0, none⟩), .agg #[.int .i64 3, .int .i64 r, .int .i64 n]] w (Post base g w (act t 3 r n)) := by
  have f1 : w.cell? ⟨g, 2, none⟩ = some (.int .i64 (t.now.getD 1 0)) := h.now 1 (by omega)
  have f2 : w.cell? ⟨g, 3, none⟩ = some (.int .i64 (t.now.getD 2 0)) := h.now 2 (by omega)
  have f3 := h.free 2
  have f4 := h.free 3
  have hg := blk_lt h.blk
  have e : act t 3 r n = if 0 ≤ t.now.getD 1 0 then some { t with now := t.now.set 2 n } else none := rfl
  have HE := Aside0.mk e
  have H := Aside0.mk h
  have HM := Aside0.mk hm
  have HB := Aside0.mk hb
  obtain ⟨x, hx⟩ : ∃ x, t.now.getD 1 0 = x := ⟨_, rfl⟩
  rw [hx] at f1
  have HX := Aside0.mk hx
  clear h hb hm e hx
  obtain ⟨v, h1, g1⟩ := may_ge x 0
  have H1 := Aside0.mk h1
  clear h1
  go_enter Try.func98, Try.ntmps98
  go_wp2
  go_ret
  have hgr : w.grownBy ((w.setCell ⟨g, 1 + 2, none⟩ (.int .i64 n)).alloc (.cells #[.int .i64 3, .int .i64 r, .int .i64 n] 105)) (some g) := grown_alloc (grown_set _ _ _ _) _
  have he := HE.out
  rw [HX.out] at he
  have h1 := H1.out
  cases v with
  | true =>
    rw [if_pos (of_decide_eq_true h1)] at he
    exact Post.turn H.out HB.out hgr HM.out he rfl rfl (blk_alloc (set_now H.out.blk H.out.good 2 (by omega) n) _)
  | false =>
    rw [if_neg (of_decide_eq_false h1)] at he
    exact Post.false (below_grown hgr HB.out H.out.lo) he
set_option maxRecDepth 100000 in
theorem defRegister_calls (w : World) (base g : Nat) (t : T) (rv kv : Value) (h : Tab w base g t rv kv) (hb : base ≤ w.heap.size) (r n : Int) (hm : mayF 4 r n = true) :
    Calls Try.prog 99 #[.pointer (some ⟨g, 0, none⟩), .agg #[.int .i64 4, .int .i64 r, .int .i64 n]] w (Post base g w (act t 4 r n)) := by
  have f1 : w.cell? ⟨g, 2, none⟩ = some (.int .i64 (t.now.getD 1 0)) := h.now 1 (by omega)
  have f2 : w.cell? ⟨g, 3, none⟩ = some (.int .i64 (t.now.getD 2 0)) := h.now 2 (by omega)
  have f3 := h.free 2
  have f4 := h.free 3
  have hg := blk_lt h.blk
  have e : act t 4 r n = if 0 ≤ t.now.getD 1 0 then some { t with now := t.now.set 1 r } else none := rfl
  have HE := Aside0.mk e
  have H := Aside0.mk h
  have HM := Aside0.mk hm
  have HB := Aside0.mk hb
  obtain ⟨x, hx⟩ : ∃ x, t.now.getD 1 0 = x := ⟨_, rfl⟩
  rw [hx] at f1
  have HX := Aside0.mk hx
  clear h hb hm e hx
  obtain ⟨v, h1, g1⟩ := may_ge x 0
  have H1 := Aside0.mk h1
  clear h1
  go_enter Try.func99, Try.ntmps99
  go_wp2
  go_ret
  have hgr : w.grownBy ((w.setCell ⟨g, 1 + 1, none⟩ (.int .i64 r)).alloc (.cells #[.int .i64 4, .int .i64 r, .int .i64 n] 105)) (some g) := grown_alloc (grown_set _ _ _ _) _
  have he := HE.out
  rw [HX.out] at he
  have h1 := H1.out
  cases v with
  | true =>
    rw [if_pos (of_decide_eq_true h1)] at he
    exact Post.turn H.out HB.out hgr HM.out he rfl rfl (blk_alloc (set_now H.out.blk H.out.good 1 (by omega) r) _)
  | false =>
    rw [if_neg (of_decide_eq_false h1)] at he
    exact Post.false (below_grown hgr HB.out H.out.lo) he
set_option maxRecDepth 100000 in
theorem restore_calls (w : World) (base g : Nat) (t : T) (rv kv : Value) (h : Tab w base g t rv kv) (hb : base ≤ w.heap.size) (r n : Int) (hm : mayF 6 r n = true) :
    Calls Try.prog 101 #[.pointer (some ⟨g, 0, none⟩), .agg #[.int .i64 6, .int .i64 r, .int .i64 n]] w (Post base g w (act t 6 r n)) := by
  obtain ⟨hr0, hr1⟩ := may_r hm
  obtain ⟨m, rfl⟩ := Int.eq_ofNat_of_zero_le hr0
  obtain ⟨⟨f1, f2⟩, f3, f4⟩ := now_at h m (by omega)
  have f5 : w.cell? ⟨g, 41 + m * 2, none⟩ = some (.int .i64 (t.first.getD (ru m) 0)) := by rw [← h.first (ru m) (by simp only [ru]; omega), show 38 + ru m = 41 + m * 2 from by simp only [ru]; omega]
  have f6 : w.cell? ⟨g, 41 + m * 2 + 1, none⟩ = some (.int .i64 (t.first.getD (ru m + 1) 0)) := by rw [← h.first (ru m + 1) (by simp only [ru]; omega), show 38 + (ru m + 1) = 41 + m * 2 + 1 from by simp only [ru]; omega]
  have e : act t 6 m n = some { t with now := (t.now.set (ru m) (t.first.getD (ru m) 0)).set (ru m + 1) (t.first.getD (ru m + 1) 0) } := rfl
  have hs := set_rule h.blk h.good m (by omega) (t.first.getD (ru m) 0) (t.first.getD (ru m + 1) 0)
  obtain ⟨x, hx⟩ : ∃ x, t.first.getD (ru m) 0 = x := ⟨_, rfl⟩
  obtain ⟨y, hy⟩ : ∃ y, t.first.getD (ru m + 1) 0 = y := ⟨_, rfl⟩
  rw [hx, hy] at e hs
  rw [hx] at f5
  rw [hy] at f6
  have HS := Aside0.mk hs
  have HE := Aside0.mk e
  have hg := blk_lt h.blk
  have H := Aside0.mk h
  have HM := Aside0.mk hm
  have hix := rule_at g 4 m (by omega)
  have hiy := rule_at g 41 m (by omega)
  have HB := Aside0.mk hb
  clear h hb hm hr0 hr1 hs e hx hy
  go_enter Try.func101, Try.ntmps101
  go_wp2
  refine still_tail 15 (by kernel_rfl) (by kernel_rfl) ?_
  simp only [List.take_succ_cons, List.take_zero, List.drop_succ_cons, List.drop_zero]
  repeat still_step
  refine wpStill_nil ?_
  go_wp2
  go_ret
  exact Post.turn H.out HB.out (grown_drew (grown_alloc (grown_set' (grown_set _ _ _ _) _ _) _)) HM.out HE.out rfl rfl (blk_alloc HS.out _)
set_option maxRecDepth 100000 in
theorem defCfa_calls (w : World) (base g : Nat) (t : T) (rv kv : Value) (h : Tab w base g t rv kv) (hb : base ≤ w.heap.size) (r n : Int) (hm : mayF 2 r n = true) :
    Calls Try.prog 97 #[.pointer (some ⟨g, 0, none⟩), .agg #[.int .i64 2, .int .i64 r, .int .i64 n]] w (Post base g w (act t 2 r n)) := by
  have f1 : w.cell? ⟨g, 2, none⟩ = some (.int .i64 (t.now.getD 1 0)) := h.now 1 (by omega)
  have f2 : w.cell? ⟨g, 3, none⟩ = some (.int .i64 (t.now.getD 2 0)) := h.now 2 (by omega)
  have f3 := h.free 2
  have f4 := h.free 3
  have hg := blk_lt h.blk
  have H := Aside0.mk h
  have HM := Aside0.mk hm
  have HB := Aside0.mk hb
  clear h hb hm
  go_enter Try.func97, Try.ntmps97
  go_wp2
  refine start_ (n := 14) (S := fun u => u.cell? ⟨w.heap.size, 1, none⟩ = some (.int .i64 r) ∧ u.cell? ⟨w.heap.size, 2, none⟩ = some (.int .i64 n)) (ds := [13]) #[false, false, false, false, false, false, false, false, false, false, false, false, false, false] (by kernel_rfl) rfl rfl ?_ (fun hHeld => ?_)
  case refine_1 => exact ⟨by go_simp, by go_simp⟩
  refine pure_ (i := 0) (N := some 5) (v := ?_) (a' := ?_) #[true, false, false, false, false, false, false, false, false, false, false, false, false, false] rfl rfl (by kernel_rfl) (fun _ _ _ h => h) (Or.inl ⟨by rfl, ?_⟩) ?_ ?_
  rotate_left
  · intro u
    go_simp
    with_reducible rfl
  rotate_left
  · simp only [Act.put, List.setIfInBounds_toArray, List.set_cons_zero, List.set_cons_succ, i64_w, i32_w]
    rfl
  refine pure_ (i := 1) (N := some 6) (v := ?_) (a' := ?_) #[true, true, false, false, false, false, false, false, false, false, false, false, false, false] rfl rfl (by kernel_rfl) (fun _ _ _ h => h) (Or.inl ⟨by rfl, ?_⟩) ?_ ?_
  rotate_left
  · intro u
    go_simp
    with_reducible rfl
  rotate_left
  · simp only [Act.put, List.setIfInBounds_toArray, List.set_cons_zero, List.set_cons_succ, i64_w, i32_w]
    rfl
  refine pure_ (i := 2) (N := some 7) (v := ?_) (a' := ?_) #[true, true, true, false, false, false, false, false, false, false, false, false, false, false] rfl rfl (by kernel_rfl) (fun _ _ _ h => h) (Or.inl ⟨by rfl, ?_⟩) ?_ ?_
  rotate_left
  · intro u
    go_simp
    with_reducible rfl
  rotate_left
  · simp only [Act.put, List.setIfInBounds_toArray, List.set_cons_zero, List.set_cons_succ, i64_w, i32_w]
    rfl
  refine take_ (i := 3) (N := some 8) (v := ?_) (a' := ?_) #[true, true, true, true, false, false, false, false, false, false, false, false, false, false] rfl rfl (by kernel_rfl) (fun _ _ _ h => h) (Or.inl ⟨by rfl, ?_⟩) hHeld ?_ ?_
  rotate_left
  · rintro u ⟨s0, s1⟩
    go_simp
    with_reducible rfl
  rotate_left
  · simp only [Act.put, List.setIfInBounds_toArray, List.set_cons_zero, List.set_cons_succ, i64_w, i32_w]
    rfl
  refine pure_ (i := 4) (N := some 9) (v := ?_) (a' := ?_) #[true, true, true, true, true, false, false, false, false, false, false, false, false, false] rfl rfl (by kernel_rfl) (fun _ _ _ h => h) (Or.inl ⟨by rfl, ?_⟩) ?_ ?_
  rotate_left
  · intro u
    go_simp
    with_reducible rfl
  rotate_left
  · simp only [Act.put, List.setIfInBounds_toArray, List.set_cons_zero, List.set_cons_succ, i64_w, i32_w]
    rfl
  refine take_ (i := 5) (N := some 10) (v := ?_) (a' := ?_) #[true, true, true, true, true, true, false, false, false, false, false, false, false, false] rfl rfl (by kernel_rfl) (fun _ _ _ h => h) (Or.inl ⟨by rfl, ?_⟩) hHeld ?_ ?_
  rotate_left
  · rintro u ⟨s0, s1⟩
    go_simp
    with_reducible rfl
  rotate_left
  · simp only [Act.put, List.setIfInBounds_toArray, List.set_cons_zero, List.set_cons_succ, i64_w, i32_w]
    rfl
  refine pure_ (i := 6) (N := some 11) (v := ?_) (a' := ?_) #[true, true, true, true, true, true, true, false, false, false, false, false, false, false] rfl rfl (by kernel_rfl) (fun _ _ _ h => h) (Or.inl ⟨by rfl, ?_⟩) ?_ ?_
  rotate_left
  · intro u
    go_simp
    with_reducible rfl
  rotate_left
  · simp only [Act.put, List.setIfInBounds_toArray, List.set_cons_zero, List.set_cons_succ, i64_w, i32_w]
    rfl
  refine pure_ (i := 7) (N := some 12) (v := ?_) (a' := ?_) #[true, true, true, true, true, true, true, true, false, false, false, false, false, false] rfl rfl (by kernel_rfl) (fun _ _ _ h => h) (Or.inl ⟨by rfl, ?_⟩) ?_ ?_
  rotate_left
  · intro u
    go_simp
    with_reducible rfl
  rotate_left
  · simp only [Act.put, List.setIfInBounds_toArray, List.set_cons_zero, List.set_cons_succ, i64_w, i32_w]
    rfl
  refine pure_ (i := 8) (N := some 13) (v := ?_) (a' := ?_) #[true, true, true, true, true, true, true, true, true, false, false, false, false, false] rfl rfl (by kernel_rfl) (fun _ _ _ h => h) (Or.inl ⟨by rfl, ?_⟩) ?_ ?_
  rotate_left
  · intro u
    go_simp
    with_reducible rfl
  rotate_left
  · simp only [Act.put, List.setIfInBounds_toArray, List.set_cons_zero, List.set_cons_succ, i64_w, i32_w]
    rfl
  refine one_ (i := 9) (N := none) #[true, true, true, true, true, true, true, true, true, true, false, false, false, false] rfl rfl (by kernel_rfl) (by decide) (fun K hK => ?_)
  rw [if_pos (by rfl)]
  go_simp
  refine hK.out _ _ ⟨by go_simp, by go_simp⟩ (fun hHeld => ?_)
  clear hK K
  refine pure_ (i := 10) (N := some 14) (v := ?_) (a' := ?_) #[true, true, true, true, true, true, true, true, true, true, true, false, false, false] rfl rfl (by kernel_rfl) (fun _ _ _ h => h) (Or.inl ⟨by rfl, ?_⟩) ?_ ?_
  rotate_left
  · intro u
    go_simp
    with_reducible rfl
  rotate_left
  · simp only [Act.put, List.setIfInBounds_toArray, List.set_cons_zero, List.set_cons_succ, i64_w, i32_w]
    rfl
  refine pure_ (i := 11) (N := some 15) (v := ?_) (a' := ?_) #[true, true, true, true, true, true, true, true, true, true, true, true, false, false] rfl rfl (by kernel_rfl) (fun _ _ _ h => h) (Or.inl ⟨by rfl, ?_⟩) ?_ ?_
  rotate_left
  · intro u
    go_simp
    with_reducible rfl
  rotate_left
  · simp only [Act.put, List.setIfInBounds_toArray, List.set_cons_zero, List.set_cons_succ, i64_w, i32_w]
    rfl
  refine pure_ (i := 12) (N := some 16) (v := ?_) (a' := ?_) #[true, true, true, true, true, true, true, true, true, true, true, true, true, false] rfl rfl (by kernel_rfl) (fun _ _ _ h => h) (Or.inl ⟨by rfl, ?_⟩) ?_ ?_
  rotate_left
  · intro u
    go_simp
    with_reducible rfl
  rotate_left
  · simp only [Act.put, List.setIfInBounds_toArray, List.set_cons_zero, List.set_cons_succ, i64_w, i32_w]
    rfl
  refine last_ (i := 13) (N := none) #[true, true, true, true, true, true, true, true, true, true, true, true, true, true] rfl rfl (by kernel_rfl) (by decide) (fun K hK => ?_)
  rw [if_pos (by rfl)]
  go_simp
  refine hK.out _ _ ?_
  clear hK K
  refine done_ (by kernel_rfl) ?_
  go_wp2
  go_ret
  have h1 := set_now H.out.blk H.out.good 1 (by omega) r
  have h2 := set_now (t := { t with now := t.now.set 1 r }) h1 (good_set1 H.out.good r) 2 (by omega) n
  exact Post.turn H.out HB.out (grown_drew (grown_alloc (grown_set' (grown_set _ _ _ _) _ _) _)) HM.out rfl rfl rfl (blk_alloc h2 _)
end Go.Proofs.Ytfgfnflhdabmcaa.Cfa
end
section
namespace Go.Proofs.Ytfgfnflhdabmcaa.Cfa
set_option linter.unusedVariables false
set_option linter.unusedSimpArgs false
open Go.RowKit Go.Proofs.Ytfgfnflhdabmcaa.G Go.Proofs.YtfgfnflhdabmcaaW.PrintWords Go.Proofs.YtfgfnflhdabmcaaW.PrintLast Go.Proofs.YtfgfnflhdabmcaaW.PrintMore
set_option maxRecDepth 100000 in
theorem remember_calls (w : World) (base g : Nat) (t : T) (rv kv : Value) (h : Tab w base g t rv kv) (hb : base ≤ w.heap.size) (r n : Int) (hm : mayF 9 r n = true) (hk : t.kept.length ≤ 1000000) :
    Calls Try.prog 104 #[.pointer (some ⟨g, 0, none⟩), .agg #[.int .i64 9, .int .i64 r, .int .i64 n]] w (Post base g w (act t 9 r n)) := by
  have e : act t 9 r n = if t.kept.length + 1 ≤ 64 then some { t with kept := t.kept ++ [t.now] } else none := rfl
  have HE := Aside0.mk e
  have hgd : Good { t with kept := t.kept ++ [t.now] } := by
    refine ⟨h.good.now, h.good.first, h.good.rows, fun q hq => ?_, h.good.at0, h.good.size, h.good.atS⟩
    rcases List.mem_append.1 hq with hq | hq
    · exact h.good.kept q hq
    · rw [List.mem_singleton.1 hq]; exact h.good.now
  have HGD := Aside0.mk hgd
  clear e hgd
  have f1 := h.keptC
  have f3 := h.free 75
  have hg := blk_lt h.blk
  have HN := Aside0.mk h.nowR
  have H := Aside0.mk h
  have HB := Aside0.mk hb
  have HK := Aside0.mk hk
  clear h hb hm hk
  go_enter Try.func104, Try.ntmps104
  go_wp2
  refine start_ (n := 14) (S := fun u => u.cell? ⟨g, 75, none⟩ = some kv ∧ Aside0 (u.rangeAt g 1 (nums .i64 t.now))) (ds := [10, 13]) #[false, false, false, false, false, false, false, false, false, false, false, false, false, false] (by kernel_rfl) rfl rfl ?_ (fun hHeld => ?_)
  case refine_1 => exact ⟨by go_simp, ⟨(World.rangeAt_drew _ _ _ _).2 (World.rangeAt_alloc HN.out _)⟩⟩
  refine pure_ (i := 0) (N := some 5) (v := ?_) (a' := ?_) #[true, false, false, false, false, false, false, false, false, false, false, false, false, false] rfl rfl (by kernel_rfl) (fun _ _ _ h => h) (Or.inl ⟨by rfl, ?_⟩) ?_ ?_
  rotate_left
  · intro u
    go_simp
    with_reducible rfl
  rotate_left
  · simp only [Act.put, List.setIfInBounds_toArray, List.set_cons_zero, List.set_cons_succ, i64_w, i32_w]
    rfl
  refine pure_ (i := 1) (N := some 6) (v := ?_) (a' := ?_) #[true, true, false, false, false, false, false, false, false, false, false, false, false, false] rfl rfl (by kernel_rfl) (fun _ _ _ h => h) (Or.inl ⟨by rfl, ?_⟩) ?_ ?_
  rotate_left
  · intro u
    go_simp
    with_reducible rfl
  rotate_left
  · simp only [Act.put, List.setIfInBounds_toArray, List.set_cons_zero, List.set_cons_succ, i64_w, i32_w]
    rfl
  refine pure_ (i := 2) (N := some 7) (v := ?_) (a' := ?_) #[true, true, true, false, false, false, false, false, false, false, false, false, false, false] rfl rfl (by kernel_rfl) (fun _ _ _ h => h) (Or.inl ⟨by rfl, ?_⟩) ?_ ?_
  rotate_left
  · intro u
    go_simp
    with_reducible rfl
  rotate_left
  · simp only [Act.put, List.setIfInBounds_toArray, List.set_cons_zero, List.set_cons_succ, i64_w, i32_w]
    rfl
  refine pure_ (i := 3) (N := some 8) (v := ?_) (a' := ?_) #[true, true, true, true, false, false, false, false, false, false, false, false, false, false] rfl rfl (by kernel_rfl) (fun _ _ _ h => h) (Or.inl ⟨by rfl, ?_⟩) ?_ ?_
  rotate_left
  · intro u
    go_simp
    with_reducible rfl
  rotate_left
  · simp only [Act.put, List.setIfInBounds_toArray, List.set_cons_zero, List.set_cons_succ, i64_w, i32_w]
    rfl
  refine take_ (i := 4) (N := some 9) (v := ?_) (a' := ?_) #[true, true, true, true, true, false, false, false, false, false, false, false, false, false] rfl rfl (by kernel_rfl) (fun _ _ _ h => h) (Or.inl ⟨by rfl, ?_⟩) hHeld ?_ ?_
  rotate_left
  · rintro u ⟨s0, s1⟩
    go_simp
    with_reducible rfl
  rotate_left
  · simp only [Act.put, List.setIfInBounds_toArray, List.set_cons_zero, List.set_cons_succ, i64_w, i32_w]
    rfl
  refine pure_ (i := 5) (N := some 10) (v := ?_) (a' := ?_) #[true, true, true, true, true, true, false, false, false, false, false, false, false, false] rfl rfl (by kernel_rfl) (fun _ _ _ h => h) (Or.inl ⟨by rfl, ?_⟩) ?_ ?_
  rotate_left
  · intro u
    go_simp
    with_reducible rfl
  rotate_left
  · simp only [Act.put, List.setIfInBounds_toArray, List.set_cons_zero, List.set_cons_succ, i64_w, i32_w]
    rfl
  refine pure_ (i := 6) (N := some 11) (v := ?_) (a' := ?_) #[true, true, true, true, true, true, true, false, false, false, false, false, false, false] rfl rfl (by kernel_rfl) (fun _ _ _ h => h) (Or.inl ⟨by rfl, ?_⟩) ?_ ?_
  rotate_left
  · intro u
    go_simp
    with_reducible rfl
  rotate_left
  · simp only [Act.put, List.setIfInBounds_toArray, List.set_cons_zero, List.set_cons_succ, i64_w, i32_w]
    rfl
  refine pure_ (i := 7) (N := some 12) (v := ?_) (a' := ?_) #[true, true, true, true, true, true, true, true, false, false, false, false, false, false] rfl rfl (by kernel_rfl) (fun _ _ _ h => h) (Or.inl ⟨by rfl, ?_⟩) ?_ ?_
  rotate_left
  · intro u
    go_simp
    with_reducible rfl
  rotate_left
  · simp only [Act.put, List.setIfInBounds_toArray, List.set_cons_zero, List.set_cons_succ, i64_w, i32_w]
    rfl
  refine take_ (i := 8) (N := some 13) (v := .agg (nums .i64 t.now).toArray) (a' := ?_) #[true, true, true, true, true, true, true, true, true, false, false, false, false, false] rfl rfl (by kernel_rfl) (fun _ _ _ h => h) (load_row_y (by rfl) (.tmp 12) rfl g 1 rfl t.now H.out.good.now (fun u hu => hu.2.out)) hHeld ?_ ?_
  rotate_left
  · simp only [Act.put, List.setIfInBounds_toArray, List.set_cons_zero, List.set_cons_succ, i64_w, i32_w]
    rfl
  refine one_ (i := 9) (N := some 14) #[true, true, true, true, true, true, true, true, true, true, false, false, false, false] rfl rfl (by kernel_rfl) (by decide) (fun K hK => ?_)
  rw [if_pos (by rfl)]
  refine wp_build_row (.tmp 13) rfl t.now H.out.good.now rfl ?_
  refine hK.out _ _ ⟨by go_simp, ⟨World.rangeAt_alloc ((World.rangeAt_drew _ _ _ _).2 (World.rangeAt_alloc HN.out _)) _⟩⟩ (fun hHeld => ?_)
  clear hK K
  refine norm_ (a' := ?_) ?_ ?_
  rotate_left
  · show Act.put _ (some 14) _ = _
    simp only [Act.put, List.setIfInBounds_toArray, List.set_cons_zero, List.set_cons_succ, i64_w, i32_w]
    rfl
  refine last_ (i := 10) (N := some 15) #[true, true, true, true, true, true, true, true, true, true, true, false, false, false] rfl rfl (by kernel_rfl) (by decide) (fun K hK => ?_)
  have hBw := below_drew (below_alloc (Below.refl w.heap.size w) (.cells #[.int .i64 9, .int .i64 r, .int .i64 n] 105))
  refine Kd.R_append_step rowK (w0 := w) base (by rfl) (.tmp 9) (.tmp 14) 111 145 _ 296 rfl Try.underlying111 info145 rfl (by decide) (by decide) kv t.kept t.now (nums .i64 t.now) (fun k => k ≠ g ∧ some k ≠ rv.ownBlock) (fun _ => False) rfl rfl (row_M _ _ _ _ H.out.good.now) (fun _ h => h.elim) ?aF ?aO ?aB ?aS ?aL ?_
  case aF =>
    intro k hk
    have hk2 : w.heap.size + 1 ≤ k := by simpa using hk
    exact ⟨by omega, fun e => by have := Kd.R_lt H.out.rows k e.symm; omega⟩
  case aO => exact Kd.R_below H.out.kept hBw
  case aB => exact (below_drew (below_alloc (Below.refl w.heap.size w) _)).mono HB.out
  case aS => have := HB.out; simp; omega
  case aL => have := HK.out; omega
  intro v1 w1 ho hbb hgr hat
  have h1 := H.out.below hBw
  obtain ⟨A1, k1, rfl⟩ := Kd.R_slice ho
  have HW := hBw
  generalize (w.alloc (Obj.cells #[Value.int .i64 9, .int .i64 r, .int .i64 n] 105)).drew = W at *
  have hc1 := blk_grown (h1.blk) hgr (fun e => (h1.kept.1 g e.symm).1 rfl)
  have hc3 : w1.cell? ⟨g, 75, none⟩ = some kv := by rw [blk_cell hc1, List.getElem?_toArray]; exact cells_tail H.out.good 0
  have hfz : w1.frozen? ⟨g, 75, none⟩ = false := blk_frozen hc1 75
  have HO := Aside0.mk ho
  have HGR := Aside0.mk hgr
  have HAT := Aside0.mk hat
  have HBW := Aside0.mk HW
  clear ho hgr hat HW hBw hbb h1 hc1
  refine hK.out _ _ ?_
  clear hK K
  refine norm_ (a' := ?_) ?_ ?_
  rotate_left
  · show Act.put _ (some 15) _ = _
    simp only [Act.put, List.setIfInBounds_toArray, List.set_cons_zero, List.set_cons_succ, i64_w, i32_w]
    rfl
  refine pure_ (i := 11) (N := some 16) (v := ?_) (a' := ?_) #[true, true, true, true, true, true, true, true, true, true, true, true, false, false] rfl rfl (by kernel_rfl) (fun _ _ _ h => h) (Or.inl ⟨by rfl, ?_⟩) ?_ ?_
  rotate_left
  · intro u
    go_simp
    with_reducible rfl
  rotate_left
  · simp only [Act.put, List.setIfInBounds_toArray, List.set_cons_zero, List.set_cons_succ, i64_w, i32_w]
    rfl
  refine pure_ (i := 12) (N := some 17) (v := ?_) (a' := ?_) #[true, true, true, true, true, true, true, true, true, true, true, true, true, false] rfl rfl (by kernel_rfl) (fun _ _ _ h => h) (Or.inl ⟨by rfl, ?_⟩) ?_ ?_
  rotate_left
  · intro u
    go_simp
    with_reducible rfl
  rotate_left
  · simp only [Act.put, List.setIfInBounds_toArray, List.set_cons_zero, List.set_cons_succ, i64_w, i32_w]
    rfl
  refine last_ (i := 13) (N := none) #[true, true, true, true, true, true, true, true, true, true, true, true, true, true] rfl rfl (by kernel_rfl) (by decide) (fun K hK => ?_)
  rw [if_pos (by rfl)]
  go_simp
  refine hK.out _ _ ?_
  clear hK K
  refine done_ (by kernel_rfl) ?_
  go_wp2
  go_ret
  have hlen : (t.kept ++ [t.now]).length = t.kept.length + 1 := by simp
  have ho := HO.out
  have hat := HAT.out
  rw [hlen] at ho hat
  have hT := H.out.kept_app HBW.out HGR.out hat ho HGD.out
  have hBel : Below base w (w1.setCell ⟨g, 75, none⟩ (.slice A1 (t.kept.length + 1) k1)) :=
    (((HBW.out.mono HB.out).grown HGR.out (by have := HB.out; have := HBW.out.size; omega) (fun k hk => Kd.R_base H.out.kept k hk)).setCell H.out.lo _)
  have he := HE.out
  by_cases c : t.kept.length + 1 ≤ 64
  · rw [if_pos c] at he
    rw [he]
    exact ⟨by rw [decide_eq_true (by omega)]; rfl, hBel, fun t' e => by cases e; exact ⟨_, _, hT⟩⟩
  · rw [if_neg c] at he
    rw [he]
    exact ⟨by rw [decide_eq_false (by omega)]; rfl, hBel, fun t' e => by cases e⟩
set_option maxRecDepth 100000 in
theorem advance_calls (w : World) (base g : Nat) (t : T) (rv kv : Value) (h : Tab w base g t rv kv) (hb : base ≤ w.heap.size) (r n : Int) (hm : mayF 1 r n = true) (hk : t.rows.length ≤ 1000000) (hs : 0 ≤ t.size) :
    Calls Try.prog 96 #[.pointer (some ⟨g, 0, none⟩), .agg #[.int .i64 1, .int .i64 r, .int .i64 n]] w (Post base g w (act t 1 r n)) := by
  by_cases hn : n = 0
  · subst hn
    go_enter Try.func96, Try.ntmps96
    go_wp2
    go_ret
    exact Post.turn h hb (grown_alloc (World.grownBy.refl _ _) _) hm rfl rfl rfl (blk_alloc h.blk _)
  have e : act t 1 r n = if t.now.getD 0 0 + n ≤ t.size then some { t with rows := t.rows ++ [t.now], now := t.now.set 0 (t.now.getD 0 0 + n) } else none := by
    show (if n = 0 then _ else _) = _
    rw [if_neg hn]
  obtain ⟨hn1, hn2⟩ := may_ne hn
  have hgd : Good { t with rows := t.rows ++ [t.now] } := by
    refine ⟨h.good.now, h.good.first, fun q hq => ?_, h.good.kept, h.good.at0, h.good.size, h.good.atS⟩
    rcases List.mem_append.1 hq with hq | hq
    · exact h.good.rows q hq
    · rw [List.mem_singleton.1 hq]; exact h.good.now
  have hat0 := h.good.at0
  have hat1 := h.good.atS hs
  have hat2 := h.good.size
  have hnn := may_n hm rfl
  have f1 := h.rowsC
  have f3 := h.free 0
  have hg := blk_lt h.blk
  have HN := Aside0.mk h.nowR
  have f5 : w.cell? ⟨g, 1, none⟩ = some (.int .i64 (t.now.getD 0 0)) := h.now 0 (by omega)
  obtain ⟨x, hx⟩ : ∃ x, t.now.getD 0 0 = x := ⟨_, rfl⟩
  rw [hx] at hat0 hat1 e f5
  have HX := Aside0.mk hx
  have HE := Aside0.mk e
  have HGD := Aside0.mk hgd
  have hwr : IntKind.i64.wrap (x + n) = x + n := by rw [IntKind.wrap_i64]; omega
  have HWR := Aside0.mk hwr
  have HSUM := Aside0.mk (show 0 ≤ x + n from by omega)
  have H := Aside0.mk h
  have HB := Aside0.mk hb
  have HK := Aside0.mk hk
  have HM := Aside0.mk hm
  clear h hb hm hk hs hn hat0 hat1 hat2 hnn e hgd hx hwr
  go_enter Try.func96, Try.ntmps96
  go_wp2
  refine start_ (n := 14) (S := fun u => u.cell? ⟨g, 0, none⟩ = some rv ∧ Aside0 (u.rangeAt g 1 (nums .i64 t.now))) (ds := [10, 13]) #[false, false, false, false, false, false, false, false, false, false, false, false, false, false] (by kernel_rfl) rfl rfl ?_ (fun hHeld => ?_)
  case refine_1 => exact ⟨by go_simp, ⟨(World.rangeAt_drew _ _ _ _).2 (World.rangeAt_alloc HN.out _)⟩⟩
  refine pure_ (i := 0) (N := some 8) (v := ?_) (a' := ?_) #[true, false, false, false, false, false, false, false, false, false, false, false, false, false] rfl rfl (by kernel_rfl) (fun _ _ _ h => h) (Or.inl ⟨by rfl, ?_⟩) ?_ ?_
  rotate_left
  · intro u
    go_simp
    with_reducible rfl
  rotate_left
  · simp only [Act.put, List.setIfInBounds_toArray, List.set_cons_zero, List.set_cons_succ, i64_w, i32_w]
    rfl
  refine pure_ (i := 1) (N := some 9) (v := ?_) (a' := ?_) #[true, true, false, false, false, false, false, false, false, false, false, false, false, false] rfl rfl (by kernel_rfl) (fun _ _ _ h => h) (Or.inl ⟨by rfl, ?_⟩) ?_ ?_
  rotate_left
  · intro u
    go_simp
    with_reducible rfl
  rotate_left
  · simp only [Act.put, List.setIfInBounds_toArray, List.set_cons_zero, List.set_cons_succ, i64_w, i32_w]
    rfl
  refine pure_ (i := 2) (N := some 10) (v := ?_) (a' := ?_) #[true, true, true, false, false, false, false, false, false, false, false, false, false, false] rfl rfl (by kernel_rfl) (fun _ _ _ h => h) (Or.inl ⟨by rfl, ?_⟩) ?_ ?_
  rotate_left
  · intro u
    go_simp
    with_reducible rfl
  rotate_left
  · simp only [Act.put, List.setIfInBounds_toArray, List.set_cons_zero, List.set_cons_succ, i64_w, i32_w]
    rfl
  refine pure_ (i := 3) (N := some 11) (v := ?_) (a' := ?_) #[true, true, true, true, false, false, false, false, false, false, false, false, false, false] rfl rfl (by kernel_rfl) (fun _ _ _ h => h) (Or.inl ⟨by rfl, ?_⟩) ?_ ?_
  rotate_left
  · intro u
    go_simp
    with_reducible rfl
  rotate_left
  · simp only [Act.put, List.setIfInBounds_toArray, List.set_cons_zero, List.set_cons_succ, i64_w, i32_w]
    rfl
  refine take_ (i := 4) (N := some 12) (v := ?_) (a' := ?_) #[true, true, true, true, true, false, false, false, false, false, false, false, false, false] rfl rfl (by kernel_rfl) (fun _ _ _ h => h) (Or.inl ⟨by rfl, ?_⟩) hHeld ?_ ?_
  rotate_left
  · rintro u ⟨s0, s1⟩
    go_simp
    with_reducible rfl
  rotate_left
  · simp only [Act.put, List.setIfInBounds_toArray, List.set_cons_zero, List.set_cons_succ, i64_w, i32_w]
    rfl
  refine pure_ (i := 5) (N := some 13) (v := ?_) (a' := ?_) #[true, true, true, true, true, true, false, false, false, false, false, false, false, false] rfl rfl (by kernel_rfl) (fun _ _ _ h => h) (Or.inl ⟨by rfl, ?_⟩) ?_ ?_
  rotate_left
  · intro u
    go_simp
    with_reducible rfl
  rotate_left
  · simp only [Act.put, List.setIfInBounds_toArray, List.set_cons_zero, List.set_cons_succ, i64_w, i32_w]
    rfl
  refine pure_ (i := 6) (N := some 14) (v := ?_) (a' := ?_) #[true, true, true, true, true, true, true, false, false, false, false, false, false, false] rfl rfl (by kernel_rfl) (fun _ _ _ h => h) (Or.inl ⟨by rfl, ?_⟩) ?_ ?_
  rotate_left
  · intro u
    go_simp
    with_reducible rfl
  rotate_left
  · simp only [Act.put, List.setIfInBounds_toArray, List.set_cons_zero, List.set_cons_succ, i64_w, i32_w]
    rfl
  refine pure_ (i := 7) (N := some 15) (v := ?_) (a' := ?_) #[true, true, true, true, true, true, true, true, false, false, false, false, false, false] rfl rfl (by kernel_rfl) (fun _ _ _ h => h) (Or.inl ⟨by rfl, ?_⟩) ?_ ?_
  rotate_left
  · intro u
    go_simp
    with_reducible rfl
  rotate_left
  · simp only [Act.put, List.setIfInBounds_toArray, List.set_cons_zero, List.set_cons_succ, i64_w, i32_w]
    rfl
  refine take_ (i := 8) (N := some 16) (v := .agg (nums .i64 t.now).toArray) (a' := ?_) #[true, true, true, true, true, true, true, true, true, false, false, false, false, false] rfl rfl (by kernel_rfl) (fun _ _ _ h => h) (load_row_y (by rfl) (.tmp 15) rfl g 1 rfl t.now H.out.good.now (fun u hu => hu.2.out)) hHeld ?_ ?_
  rotate_left
  · simp only [Act.put, List.setIfInBounds_toArray, List.set_cons_zero, List.set_cons_succ, i64_w, i32_w]
    rfl
  refine one_ (i := 9) (N := some 17) #[true, true, true, true, true, true, true, true, true, true, false, false, false, false] rfl rfl (by kernel_rfl) (by decide) (fun K hK => ?_)
  rw [if_pos (by rfl)]
  refine wp_build_row (.tmp 16) rfl t.now H.out.good.now rfl ?_
  refine hK.out _ _ ⟨by go_simp, ⟨World.rangeAt_alloc ((World.rangeAt_drew _ _ _ _).2 (World.rangeAt_alloc HN.out _)) _⟩⟩ (fun hHeld => ?_)
  clear hK K
  refine norm_ (a' := ?_) ?_ ?_
  rotate_left
  · show Act.put _ (some 17) _ = _
    simp only [Act.put, List.setIfInBounds_toArray, List.set_cons_zero, List.set_cons_succ, i64_w, i32_w]
    rfl
  refine last_ (i := 10) (N := some 18) #[true, true, true, true, true, true, true, true, true, true, true, false, false, false] rfl rfl (by kernel_rfl) (by decide) (fun K hK => ?_)
  have hBw := below_drew (below_alloc (Below.refl w.heap.size w) (.cells #[.int .i64 1, .int .i64 r, .int .i64 n] 105))
  refine Kd.R_append_step rowK (w0 := w) base (by rfl) (.tmp 12) (.tmp 17) 111 145 _ 296 rfl Try.underlying111 info145 rfl (by decide) (by decide) rv t.rows t.now (nums .i64 t.now) (fun k => k ≠ g ∧ some k ≠ kv.ownBlock) (fun _ => False) rfl rfl (row_M _ _ _ _ H.out.good.now) (fun _ h => h.elim) ?aF ?aO ?aB ?aS ?aL ?_
  case aF =>
    intro k hk
    have hk2 : w.heap.size + 1 ≤ k := by simpa using hk
    exact ⟨by omega, fun e => by have := Kd.R_lt H.out.kept k e.symm; omega⟩
  case aO => exact Kd.R_below H.out.rows hBw
  case aB => exact (below_drew (below_alloc (Below.refl w.heap.size w) _)).mono HB.out
  case aS => have := HB.out; simp; omega
  case aL => have := HK.out; omega
  intro v1 w1 ho hbb hgr hat
  have h1 := H.out.below hBw
  obtain ⟨A1, k1, rfl⟩ := Kd.R_slice ho
  have HW := hBw
  have hbox : (w.alloc (Obj.cells #[Value.int .i64 1, .int .i64 r, .int .i64 n] 105)).drew.heap[w.heap.size]? = some (.cells #[Value.int .i64 1, .int .i64 r, .int .i64 n] 105 (0, 0)) := blk_new w _
  generalize (w.alloc (Obj.cells #[Value.int .i64 1, .int .i64 r, .int .i64 n] 105)).drew = W at *
  have hbox1 := blk_grown hbox hgr (fun e => by have := Kd.R_lt H.out.rows _ e.symm; omega)
  have hc1 := blk_grown (h1.blk) hgr (fun e => (h1.rows.1 g e.symm).1 rfl)
  have hc3 : w1.cell? ⟨g, 0, none⟩ = some rv := by rw [blk_cell hc1]; rfl
  have hfz : w1.frozen? ⟨g, 0, none⟩ = false := blk_frozen hc1 0
  have HO := Aside0.mk ho
  have HGR := Aside0.mk hgr
  have HAT := Aside0.mk hat
  have HBW := Aside0.mk HW
  have HBOX := Aside0.mk hbox1
  clear ho hgr hat HW hBw hbb h1 hc1 hbox hbox1
  refine hK.out _ _ ?_
  clear hK K
  refine norm_ (a' := ?_) ?_ ?_
  rotate_left
  · show Act.put _ (some 18) _ = _
    simp only [Act.put, List.setIfInBounds_toArray, List.set_cons_zero, List.set_cons_succ, i64_w, i32_w]
    rfl
  refine pure_ (i := 11) (N := some 19) (v := ?_) (a' := ?_) #[true, true, true, true, true, true, true, true, true, true, true, true, false, false] rfl rfl (by kernel_rfl) (fun _ _ _ h => h) (Or.inl ⟨by rfl, ?_⟩) ?_ ?_
  rotate_left
  · intro u
    go_simp
    with_reducible rfl
  rotate_left
  · simp only [Act.put, List.setIfInBounds_toArray, List.set_cons_zero, List.set_cons_succ, i64_w, i32_w]
    rfl
  refine pure_ (i := 12) (N := some 20) (v := ?_) (a' := ?_) #[true, true, true, true, true, true, true, true, true, true, true, true, true, false] rfl rfl (by kernel_rfl) (fun _ _ _ h => h) (Or.inl ⟨by rfl, ?_⟩) ?_ ?_
  rotate_left
  · intro u
    go_simp
    with_reducible rfl
  rotate_left
  · simp only [Act.put, List.setIfInBounds_toArray, List.set_cons_zero, List.set_cons_succ, i64_w, i32_w]
    rfl
  refine last_ (i := 13) (N := none) #[true, true, true, true, true, true, true, true, true, true, true, true, true, true] rfl rfl (by kernel_rfl) (by decide) (fun K hK => ?_)
  rw [if_pos (by rfl)]
  go_simp
  refine hK.out _ _ ?_
  clear hK K
  refine done_ (by kernel_rfl) ?_
  have hlen : (t.rows ++ [t.now]).length = t.rows.length + 1 := by simp
  have ho := HO.out
  have hat := HAT.out
  rw [hlen] at ho hat
  have hT := H.out.rows_app HBW.out HGR.out hat ho HGD.out
  have hBel : Below base w (w1.setCell ⟨g, 0, none⟩ (.slice A1 (t.rows.length + 1) k1)) :=
    (((HBW.out.mono HB.out).grown HGR.out (by have := HB.out; have := HBW.out.size; omega) (fun k hk => Kd.R_base H.out.rows k hk)).setCell H.out.lo _)
  have hbox : (w1.setCell ⟨g, 0, none⟩ (.slice A1 (t.rows.length + 1) k1)).heap[w.heap.size]? = some (.cells #[Value.int .i64 1, .int .i64 r, .int .i64 n] 105 (0, 0)) := blk_far HBOX.out (by show w.heap.size ≠ g; omega) _
  clear ho hat hlen HO HGR HAT HBW HBOX hHeld hc3 hfz f1 f3 f5 HN hg
  have HBL := Aside0.mk hBel
  have HT := Aside0.mk hT
  have hle : base ≤ (w1.setCell ⟨g, 0, none⟩ (.slice A1 (t.rows.length + 1) k1)).heap.size := by have := hBel.size; have := HB.out; omega
  have HLE := Aside0.mk hle
  have c1 : (w1.setCell ⟨g, 0, none⟩ (.slice A1 (t.rows.length + 1) k1)).cell? ⟨g, 1, none⟩ = some (.int .i64 x) := by rw [← HX.out]; exact hT.now 0 (by omega)
  have c2 : (w1.setCell ⟨g, 0, none⟩ (.slice A1 (t.rows.length + 1) k1)).cell? ⟨g, 76, none⟩ = some (.int .i64 t.size) := hT.size
  have c3 := hT.free 1
  have c4 : (w1.setCell ⟨g, 0, none⟩ (.slice A1 (t.rows.length + 1) k1)).cell? ⟨w.heap.size, 2, none⟩ = some (.int .i64 n) := by rw [blk_cell hbox]; rfl
  clear hBel hT hle hbox
  generalize (w1.setCell ⟨g, 0, none⟩ (.slice A1 (t.rows.length + 1) k1)) = w2 at *
  generalize Value.slice A1 (t.rows.length + 1) k1 = v1 at *
  have hwr := HWR.out
  have hw64 : wrap64 (x + n) = x + n := (i64_w _).symm.trans hwr
  go_wp2
  refine still_tail 11 (by kernel_rfl) (by kernel_rfl) ?_
  simp only [List.take_succ_cons, List.take_zero, List.drop_succ_cons, List.drop_zero]
  repeat still_step
  refine wpStill_nil ?_
  go_wp2
  go_quiet (fail)
  go_wp2
  go_ret
  show Post base g w (act t 1 r n) (.returned (.bool (decide (x + n ≤ t.size)))) _
  have h1 := set_now HT.out.blk HT.out.good 0 (by omega) (x + n)
  have he := HE.out
  have hgr : w2.grownBy ((w2.setCell ⟨g, 1, none⟩ (.int .i64 (x + n))).drew.drewN nq) (some g) := grown_below' (grown_drew (grown_set _ _ _ _)) (pw_below_drewN (Below.refl _ _) _)
  have hb2 : Below base w ((w2.setCell ⟨g, 1, none⟩ (.int .i64 (x + n))).drew.drewN nq) := HBL.out.trans (below_grown hgr HLE.out HT.out.lo)
  by_cases c : x + n ≤ t.size
  · rw [if_pos c] at he
    rw [he, decide_eq_true c]
    refine ⟨rfl, hb2, fun t' e => ?_⟩
    have e' := e
    cases e
    exact ⟨_, _, HT.out.turn hgr (good_act H.out.good HM.out he) h1 rfl rfl⟩
  · rw [if_neg c] at he
    rw [he, decide_eq_false c]
    exact ⟨rfl, hb2, fun t' e => by cases e⟩
set_option maxRecDepth 100000 in
theorem recall_none (w : World) (base g : Nat) (t : T) (rv kv : Value) (h : Tab w base g t rv kv) (hb : base ≤ w.heap.size) (r n : Int) (hm : mayF 10 r n = true) (hk : t.kept = []) :
    Calls Try.prog 105 #[.pointer (some ⟨g, 0, none⟩), .agg #[.int .i64 10, .int .i64 r, .int .i64 n]] w (Post base g w (act t 10 r n)) := by
  have e : act t 10 r n = none := by
    show (if t.kept = [] then none else _) = _
    rw [if_pos hk]
  have HE := Aside0.mk e
  have hk2 := h.kept
  rw [hk] at hk2
  obtain ⟨A, c, rfl⟩ := Kd.R_slice hk2
  have f1 := h.keptC
  have hg := blk_lt h.blk
  have H := Aside0.mk h
  have HB := Aside0.mk hb
  clear h hb hm hk e hk2
  go_enter Try.func105, Try.ntmps105
  go_wp2
  go_ret
  exact Post.false ((below_alloc (Below.refl w.heap.size w) _).mono HB.out) HE.out
set_option maxHeartbeats 1000000 in
set_option maxRecDepth 100000 in
theorem recall_some (w : World) (base g : Nat) (t : T) (rv kv : Value) (h : Tab w base g t rv kv) (hb : base ≤ w.heap.size) (r n : Int) (hm : mayF 10 r n = true) (m : Nat) (hk : t.kept.length = m + 1) (hmm : m ≤ 1000000) :
    Calls Try.prog 105 #[.pointer (some ⟨g, 0, none⟩), .agg #[.int .i64 10, .int .i64 r, .int .i64 n]] w (Post base g w (act t 10 r n)) := by
  have hne : t.kept ≠ [] := fun e => by rw [e] at hk; cases hk
  have e : act t 10 r n = some { t with now := (t.kept.getLastD []).set 0 (t.now.getD 0 0), kept := t.kept.dropLast } := by
    show (if t.kept = [] then none else _) = _
    rw [if_neg hne]
  have hgd := good_act h.good hm e
  obtain ⟨l, hl⟩ : ∃ l, t.kept.getLastD [] = l := ⟨_, rfl⟩
  have hl37 : l.length = 37 := by rw [← hl]; exact h.good.kept _ (getLastD_mem hne)
  have hK := h.kept
  obtain ⟨A, c, hkv⟩ := Kd.R_slice hK
  rw [hk] at hkv
  subst hkv
  have hrd := Kd.R_reads' hK
  obtain ⟨ad, rfl⟩ : ∃ ad, A = some ad := by
    obtain ⟨ad, e, _⟩ := hrd.2.2.2.2 (by omega)
    exact ⟨ad, e⟩
  obtain ⟨b, rfl⟩ := Kd.R_head hK
  obtain ⟨cs, hcl, hM, hcc, hcf⟩ := Kd.R_elem hK ([] : Row) (m : Int) (by omega) (by omega)
  have hlm : t.kept.getD (m : Int).toNat [] = l := by
    rw [Int.toNat_natCast, ← hl, List.getLastD_eq_getLast?, List.getLast?_eq_getElem?, hk, Nat.add_sub_cancel, List.getD_eq_getElem?_getD]
  rw [hlm] at hM
  obtain ⟨_, rfl⟩ := row_K (rowK.K_of_M hM)
  have hra : w.rangeAt b (m * 37) (nums .i64 l) := fun j v hv => by
    have := hcc j v hv
    rwa [Int.toNat_natCast] at this
  have hbg : b ≠ g := (hK.1 b rfl).1
  have hT := Kd.R_take (m := m) hK (by omega)
  have hdl : t.kept.take m = t.kept.dropLast := by rw [List.dropLast_eq_take, hk, Nat.add_sub_cancel]
  rw [hdl] at hT
  have hix : ∀ W : World, (Instr.indexAt 111 (.slice (some ⟨b, 0, none⟩) (m + 1) c) (.int .i64 (m : Int))).run Try.prog W = .ok (.pointer (some ⟨b, m * 37, none⟩)) W := fun W => by
    have h2 : Try.prog.elem 111 = 145 := by kernel_rfl
    have h3 : (sizeOf 145).run Try.prog W = .ok 37 W := by kernel_rfl
    rw [run_indexAt_slice (P := Try.prog) W _ _ _ _ _ _ (by rw [h2]; exact Try.underlying111), if_pos (by omega), h2, h3]
    simp only [Result.andThen, Int.toNat_natCast, Addr.add_mid, Nat.zero_add]
  have hsl : ∀ W : World, (Instr.slice 111 (.slice (some ⟨b, 0, none⟩) (m + 1) c) none (some (.int .i64 (m : Int))) none).run Try.prog W = .ok (.slice (some ⟨b, 0, none⟩) m c) W := fun W => by
    obtain ⟨i0, hi, _⟩ := Option.map_eq_some_iff.1 info145
    have := cut_to (P := Try.prog) 111 145 .i64 Try.underlying111 hi (some ⟨b, 0, none⟩) (m + 1) c (m : Int) (by omega) (by omega) hrd.2.1 W
    rwa [Int.toNat_natCast] at this
  have f1 := h.keptC
  have f3 := h.free 75
  have hg := blk_lt h.blk
  have hblt := Kd.R_lt hK b rfl
  have f5 : w.cell? ⟨g, 1, none⟩ = some (.int .i64 (t.now.getD 0 0)) := h.now 0 (by omega)
  obtain ⟨x, hx⟩ : ∃ x, t.now.getD 0 0 = x := ⟨_, rfl⟩
  rw [hx] at f5
  rw [hl, hx] at e
  have HX := Aside0.mk hx
  have HE := Aside0.mk e
  have HT := Aside0.mk hT
  have HBG := Aside0.mk hbg
  have HRA := Aside0.mk hra
  have HGD := Aside0.mk hgd
  have hgd2 : Good { t with now := l.set 0 x, kept := t.kept.dropLast } := by rw [← hl, ← hx]; exact hgd
  have HGD2 := Aside0.mk hgd2
  clear hgd2
  have HL37 := Aside0.mk hl37
  have H := Aside0.mk h
  have HB := Aside0.mk hb
  have HMM := Aside0.mk hmm
  have hmw : IntKind.i64.wrap (m : Int) = m := by rw [IntKind.wrap_i64]; omega
  have HL := Aside0.mk hl
  clear h hb hm hk hmm hne e hgd hl hK hrd hcl hM hcc hcf hlm hra hbg hT hdl hx hl37 HL
  go_enter Try.func105, Try.ntmps105
  go_wp2
  refine start_ (n := 14) (S := fun u => u.cell? ⟨g, 75, none⟩ = some (.slice (some ⟨b, 0, none⟩) (m + 1) c) ∧ Aside0 (u.rangeAt b (m * 37) (nums .i64 l))) (ds := [13]) #[false, false, false, false, false, false, false, false, false, false, false, false, false, false] (by kernel_rfl) rfl rfl ?_ (fun hHeld => ?_)
  case refine_1 => exact ⟨by go_simp, ⟨(World.rangeAt_drew _ _ _ _).2 (World.rangeAt_alloc HRA.out _)⟩⟩
  refine pure_ (i := 0) (N := some 12) (v := ?_) (a' := ?_) #[true, false, false, false, false, false, false, false, false, false, false, false, false, false] rfl rfl (by kernel_rfl) (fun _ _ _ h => h) (Or.inl ⟨by rfl, ?_⟩) ?_ ?_
  rotate_left
  · intro u
    go_simp
    with_reducible rfl
  rotate_left
  · simp only [Act.put, List.setIfInBounds_toArray, List.set_cons_zero, List.set_cons_succ, i64_w, i32_w]
    rfl
  refine pure_ (i := 1) (N := some 13) (v := ?_) (a' := ?_) #[true, true, false, false, false, false, false, false, false, false, false, false, false, false] rfl rfl (by kernel_rfl) (fun _ _ _ h => h) (Or.inl ⟨by rfl, ?_⟩) ?_ ?_
  rotate_left
  · intro u
    go_simp
    with_reducible rfl
  rotate_left
  · simp only [Act.put, List.setIfInBounds_toArray, List.set_cons_zero, List.set_cons_succ, i64_w, i32_w]
    rfl
  refine pure_ (i := 2) (N := some 14) (v := ?_) (a' := ?_) #[true, true, true, false, false, false, false, false, false, false, false, false, false, false] rfl rfl (by kernel_rfl) (fun _ _ _ h => h) (Or.inl ⟨by rfl, ?_⟩) ?_ ?_
  rotate_left
  · intro u
    go_simp
    with_reducible rfl
  rotate_left
  · simp only [Act.put, List.setIfInBounds_toArray, List.set_cons_zero, List.set_cons_succ, i64_w, i32_w]
    rfl
  refine take_ (i := 3) (N := some 15) (v := ?_) (a' := ?_) #[true, true, true, true, false, false, false, false, false, false, false, false, false, false] rfl rfl (by kernel_rfl) (fun _ _ _ h => h) (Or.inl ⟨by rfl, ?_⟩) hHeld ?_ ?_
  rotate_left
  · rintro u ⟨s0, s1⟩
    go_simp
    with_reducible rfl
  rotate_left
  · simp only [Act.put, List.setIfInBounds_toArray, List.set_cons_zero, List.set_cons_succ, i64_w, i32_w]
    rfl
  refine pure_ (i := 4) (N := some 16) (v := ?_) (a' := ?_) #[true, true, true, true, true, false, false, false, false, false, false, false, false, false] rfl rfl (by kernel_rfl) (fun _ _ _ h => h) (Or.inl ⟨by rfl, ?_⟩) ?_ ?_
  rotate_left
  · intro u
    go_simp
    with_reducible rfl
  rotate_left
  · simp only [Act.put, List.setIfInBounds_toArray, List.set_cons_zero, List.set_cons_succ, i64_w, i32_w]
    rfl
  refine pure_ (i := 5) (N := some 17) (v := ?_) (a' := ?_) #[true, true, true, true, true, true, false, false, false, false, false, false, false, false] rfl rfl (by kernel_rfl) (fun _ _ _ h => h) (Or.inl ⟨by rfl, ?_⟩) ?_ ?_
  rotate_left
  · intro u
    go_simp
    with_reducible rfl
  rotate_left
  · simp only [Act.put, List.setIfInBounds_toArray, List.set_cons_zero, List.set_cons_succ, i64_w, i32_w]
    rfl
  refine pure_ (i := 6) (N := some 18) (v := ?_) (a' := ?_) #[true, true, true, true, true, true, true, false, false, false, false, false, false, false] rfl rfl (by kernel_rfl) (fun _ _ _ h => h) (Or.inl ⟨by rfl, ?_⟩) ?_ ?_
  rotate_left
  · intro u
    go_simp
    with_reducible rfl
  rotate_left
  · simp only [Act.put, List.setIfInBounds_toArray, List.set_cons_zero, List.set_cons_succ, i64_w, i32_w]
    rfl
  refine take_ (i := 7) (N := some 19) (v := ?_) (a' := ?_) #[true, true, true, true, true, true, true, true, false, false, false, false, false, false] rfl rfl (by kernel_rfl) (fun _ _ _ h => h) (Or.inl ⟨by rfl, ?_⟩) hHeld ?_ ?_
  rotate_left
  · rintro u ⟨s0, s1⟩
    go_simp
    with_reducible rfl
  rotate_left
  · simp only [Act.put, List.setIfInBounds_toArray, List.set_cons_zero, List.set_cons_succ, i64_w, i32_w]
    rfl
  refine pure_ (i := 8) (N := some 20) (v := ?_) (a' := ?_) #[true, true, true, true, true, true, true, true, true, false, false, false, false, false] rfl rfl (by kernel_rfl) (fun _ _ _ h => h) (Or.inl ⟨by rfl, ?_⟩) ?_ ?_
  rotate_left
  · intro u
    go_simp
    with_reducible rfl
  rotate_left
  · simp only [Act.put, List.setIfInBounds_toArray, List.set_cons_zero, List.set_cons_succ, i64_w, i32_w]
    rfl
  refine pure_ (i := 9) (N := some 21) (v := ?_) (a' := ?_) #[true, true, true, true, true, true, true, true, true, true, false, false, false, false] rfl rfl (by kernel_rfl) (fun _ _ _ h => h) (Or.inl ⟨by rfl, ?_⟩) ?_ ?_
  rotate_left
  · intro u
    go_simp
    with_reducible rfl
  rotate_left
  · simp only [Act.put, List.setIfInBounds_toArray, List.set_cons_zero, List.set_cons_succ, i64_w, i32_w]
    rfl
  refine pure_ (i := 10) (N := some 22) (v := ?_) (a' := ?_) #[true, true, true, true, true, true, true, true, true, true, true, false, false, false] rfl rfl (by kernel_rfl) (fun _ _ _ h => h) (Or.inl ⟨by rfl, ?_⟩) ?_ ?_
  rotate_left
  · intro u
    go_simp
    with_reducible rfl
  rotate_left
  · simp only [Act.put, List.setIfInBounds_toArray, List.set_cons_zero, List.set_cons_succ, i64_w, i32_w]
    rfl
  refine take_ (i := 11) (N := some 23) (v := .agg (nums .i64 l).toArray) (a' := ?_) #[true, true, true, true, true, true, true, true, true, true, true, true, false, false] rfl rfl (by kernel_rfl) (fun _ _ _ h => h) (load_row_y (by rfl) (.tmp 22) rfl b (m * 37) rfl l HL37.out (fun u hu => hu.2.out)) hHeld ?_ ?_
  rotate_left
  · simp only [Act.put, List.setIfInBounds_toArray, List.set_cons_zero, List.set_cons_succ, i64_w, i32_w]
    rfl
  refine one_ (i := 12) (N := some 5) #[true, true, true, true, true, true, true, true, true, true, true, true, true, false] rfl rfl (by kernel_rfl) (by decide) (fun K hK => ?_)
  rw [if_pos (by rfl)]
  refine alloc_rowK rowTy rfl ?_
  refine hK.out _ _ ⟨by go_simp, ⟨World.rangeAt_alloc ((World.rangeAt_drew _ _ _ _).2 (World.rangeAt_alloc HRA.out _)) _⟩⟩ (fun hHeld => ?_)
  clear hK K
  refine norm_ (a' := ?_) ?_ ?_
  rotate_left
  · show Act.put _ (some 5) _ = _
    simp only [Act.put, List.setIfInBounds_toArray, List.set_cons_zero, List.set_cons_succ, i64_w, i32_w]
    rfl
  refine last_ (i := 13) (N := none) #[true, true, true, true, true, true, true, true, true, true, true, true, true, true] rfl rfl (by kernel_rfl) (by decide) (fun K hK => ?_)
  rw [if_pos (by rfl)]
  have hBw := below_drew (below_alloc (Below.refl w.heap.size w) (.cells #[.int .i64 10, .int .i64 r, .int .i64 n] 105))
  generalize (w.alloc (Obj.cells #[Value.int .i64 10, .int .i64 r, .int .i64 n] 105)).drew = W at *
  obtain ⟨hb1, hb2⟩ := box_new (tr := 145) (w := W) (g := W.heap.size) rfl HL37.out
  refine store_rowK rowTy (.tmp 5) (.tmp 23) rfl W.heap.size 0 l HL37.out rfl rfl (there_of_blk (blk_new W _) (by rw [List.size_toArray, nums_length, zrow_len]; decide)) ?_
  generalize (W.alloc (.cells (nums .i64 zrow).toArray 145)).setCells W.heap.size 0 (nums .i64 l) = w3 at *
  have hB3 : Below w.heap.size w w3 := below_step hBw hb2
  have hgx : g ≠ W.heap.size := by have := hBw.size; omega
  refine hK.out _ _ ?_
  clear hK K
  refine done_ (by kernel_rfl) ?_
  have HX0W := Aside0.mk (show w.heap.size ≤ W.heap.size from hBw.size)
  generalize W.heap.size = x0 at *
  have hxg : x0 ≠ g := fun e => hgx e.symm
  have hT3 := H.out.below hB3
  have HB3 := Aside0.mk hB3
  have HX0 := Aside0.mk hb1
  have d1 := hT3.keptC
  have d2 := hT3.free 75
  have HT3 := Aside0.mk hT3
  have HK3 := Aside0.mk (Kd.R_below HT.out hB3)
  have d3 : w3.cell? ⟨g, 1, none⟩ = some (.int .i64 x) := by rw [← HX.out]; exact hT3.now 0 (by omega)
  have d4 : w3.cell? ⟨x0, 0, none⟩ = some (.int .i64 (l.getD 0 0)) := by rw [blk_cell hb1, List.getElem?_toArray]; exact nums_get (by rw [HL37.out]; decide)
  have d5 : w3.frozen? ⟨x0, 0, none⟩ = false := blk_frozen hb1 0
  have hxg : x0 ≠ g := fun e => hgx e.symm
  have hgk : Good { t with kept := t.kept.dropLast } := ⟨hT3.good.now, hT3.good.first, hT3.good.rows, fun q hq => hT3.good.kept q (List.dropLast_subset _ hq), hT3.good.at0, hT3.good.size, hT3.good.atS⟩
  have HGK := Aside0.mk hgk
  have g1 := set_kept hT3.blk hT3.good (.slice (some ⟨b, 0, none⟩) m c) t.kept.dropLast
  have g2 := blk_drew (blk_far g1 (p := ⟨x0, 0, none⟩) hgx (.int .i64 x))
  have x1 : ((w3.setCell ⟨g, 75, none⟩ (.slice (some ⟨b, 0, none⟩) m c)).setCell ⟨x0, 0, none⟩ (.int .i64 x)).drew.heap[x0]? = some (.cells (nums .i64 (l.set 0 x)).toArray 145 (0, 0)) :=
    blk_drew (blk_put (blk_far hb1 (p := ⟨g, 75, none⟩) hxg _) 0 _ (by rw [List.setIfInBounds_toArray, nums, nums, List.map_set]))
  have HC := Aside0.mk (range_of_blk x1)
  have HTH := Aside0.mk (there_of_blk (o := 1) (n := 37) g2 (by rw [List.size_toArray, cells_len hgk]; decide))
  have HG2 := Aside0.mk g2
  have HLS := Aside0.mk (show (l.set 0 x).length = 37 by rw [List.length_set]; exact HL37.out)
  clear hB3 hb1 hb2 hBw hT3 hHeld f1 f3 f5 HRA g1 g2 x1 hgk
  go_wp2
  refine still_tail 14 (by kernel_rfl) (by kernel_rfl) ?_
  simp only [List.take_succ_cons, List.take_zero, List.drop_succ_cons, List.drop_zero]
  repeat still_step
  refine wpStill_nil ?_
  go_wp2_with (first
    | (refine load_rowW rowTy rfl (.tmp 5) rfl x0 0 rfl (l.set 0 x) HLS.out HC.out ?_)
    | (refine store_rowW rowTy rfl (.tmp 47) (.tmp 45) rfl g 1 (l.set 0 x) HLS.out rfl rfl HTH.out ?_))
  go_ret
  have e := HE.out
  rw [e]
  have hb3 := HB3.out
  have hx0 : w.heap.size ≤ x0 := HX0W.out
  have hbel : Below base w (((w3.setCell ⟨g, 75, none⟩ (.slice (some ⟨b, 0, none⟩) m c)).setCell ⟨x0, 0, none⟩ (.int .i64 x)).drew.setCells g 1 (nums .i64 (l.set 0 x))) := by
    have h1 : Below base w ((w3.setCell ⟨g, 75, none⟩ (.slice (some ⟨b, 0, none⟩) m c)).setCell ⟨x0, 0, none⟩ (.int .i64 x)).drew :=
      below_drew (((hb3.mono HB.out).setCell H.out.lo _).setCell (Nat.le_trans HB.out hx0) _)
    exact h1.trans (below_grown (grown_setCells _ _ _ _) (Nat.le_trans HB.out h1.size) H.out.lo)
  refine ⟨rfl, hbel, fun t' e2 => ?_⟩
  cases e2
  have hmv : ∀ k, k ≠ g → k < w.heap.size → (((w3.setCell ⟨g, 75, none⟩ (.slice (some ⟨b, 0, none⟩) m c)).setCell ⟨x0, 0, none⟩ (.int .i64 x)).drew.setCells g 1 (nums .i64 (l.set 0 x))).heap[k]? = w.heap[k]? := fun k hk hlt => by
    rw [setCells_far _ _ _ hk]
    show ((w3.setCell ⟨g, 75, none⟩ _).setCell ⟨x0, 0, none⟩ _).heap[k]? = _
    rw [Below.heap_setCell _ _ _ _ (show k ≠ x0 by omega), Below.heap_setCell _ _ _ _ (show k ≠ g from hk)]
    exact hb3.block k hlt
  refine ⟨_, _, HGD2.out, H.out.lo, set_nowAll HG2.out HGK.out _ HLS.out, ?_, ?_⟩
  · exact Kd.R_step H.out.rows (fun k hk hlt => hmv k hk.1 hlt)
  · exact Kd.R_step HT.out (fun k hk hlt => hmv k hk.1 hlt)
theorem recall_calls (w : World) (base g : Nat) (t : T) (rv kv : Value) (h : Tab w base g t rv kv) (hb : base ≤ w.heap.size) (r n : Int) (hm : mayF 10 r n = true) (hk : t.kept.length ≤ 1000000) :
    Calls Try.prog 105 #[.pointer (some ⟨g, 0, none⟩), .agg #[.int .i64 10, .int .i64 r, .int .i64 n]] w (Post base g w (act t 10 r n)) := by
  rcases Nat.eq_zero_or_pos t.kept.length with h0 | h0
  · exact recall_none w base g t rv kv h hb r n hm (List.eq_nil_of_length_eq_zero h0)
  · obtain ⟨m, e⟩ : ∃ m, t.kept.length = m + 1 := ⟨t.kept.length - 1, by omega⟩
    exact recall_some w base g t rv kv h hb r n hm m e (by omega)
end Go.Proofs.Ytfgfnflhdabmcaa.Cfa
end
section
namespace Go.Proofs.Ytfgfnflhdabmcaa.Cfa
set_option linter.unusedVariables false
set_option linter.unusedSimpArgs false
open Go.RowKit Go.Proofs.Ytfgfnflhdabmcaa.G Go.Proofs.YtfgfnflhdabmcaaW.PrintWords Go.Proofs.YtfgfnflhdabmcaaW.PrintLast Go.Proofs.YtfgfnflhdabmcaaW.PrintMore
def waysV : Array Value := #[.func (.func 95) #[] #[], .func (.func 96) #[] #[], .func (.func 97) #[] #[], .func (.func 98) #[] #[], .func (.func 99) #[] #[], .func (.func 100) #[] #[],
  .func (.func 101) #[] #[], .func (.func 102) #[] #[], .func (.func 103) #[] #[], .func (.func 104) #[] #[], .func (.func 105) #[] #[]]
theorem ways_calls (w : World) : Calls Try.prog 93 #[] w fun e w' => e = .returned (.agg waysV) ∧ Below w.heap.size w w' := by
  go_enter Try.func93, Try.ntmps93
  go_wp2
  exact bodyPost_ret (v := .agg waysV) (results_single rfl (.cell w.heap.size 166 waysV (0, 0) _ rfl (blk_new w _) Try.underlying166 rfl (by kernel_rfl) .nil)) rfl ⟨rfl, below_alloc (Below.refl _ _) _⟩
set_option maxRecDepth 100000 in
theorem do_0 (w : World) (base g : Nat) (t : T) (rv kv : Value) (h : Tab w base g t rv kv) (hb : base ≤ w.heap.size) (r n : Int) (hm : mayF 0 r n = true) (hl : t.rows.length ≤ 1000000 ∧ t.kept.length ≤ 1000000 ∧ 0 ≤ t.size) :
    Calls Try.prog 85 #[.pointer (some ⟨g, 0, none⟩), .agg #[.int .i64 0, .int .i64 r, .int .i64 n]] w (Post base g w (act t 0 r n)) := by
  obtain ⟨R, hR⟩ : ∃ R, act t 0 r n = R := ⟨_, rfl⟩
  rw [hR]
  have HR := Aside0.mk hR
  have HL := Aside0.mk hl
  clear hR hl
  have H := Aside0.mk h
  have HM := Aside0.mk hm
  have HB := Aside0.mk hb
  have HB0 := Aside0.mk (Below.refl w.heap.size w)
  clear h hb hm
  go_enter Try.func85, Try.ntmps85
  go_wp2_with fail
  refine (cfa_Op_may.calls 0 r n true _ (by unfold cfa_Op_may.f; rw [HM.out])).mono ?_
  rintro e w1 ⟨rfl, hb1⟩
  have hbx := blk_below (blk_new w (.cells #[.int .i64 0, .int .i64 r, .int .i64 n] 105)) hb1
  have hB1 := below_step (below_alloc (Below.refl w.heap.size w) (.cells #[.int .i64 0, .int .i64 r, .int .i64 n] 105)) hb1
  have h1 := H.out.below hB1
  have c1 := h1.begun
  have c2 : w1.cell? ⟨w.heap.size, 0, none⟩ = some (.int .i64 0) := by rw [blk_cell hbx]; rfl
  have H1 := Aside0.mk h1
  have HBX := Aside0.mk hbx
  have HB1 := Aside0.mk hB1
  clear hb1 hbx hB1 h1
  cases hbg : t.begun <;> rw [hbg] at c1 <;> clear hbg
  all_goals
    go_wp2_with fail
    refine (ways_calls _).mono ?_
    rintro e w2 ⟨rfl, hb2⟩
    have h2 := H1.out.below hb2
    have hbx := blk_below HBX.out hb2
    have hB2 := below_step HB1.out hb2
    have d0 : w2.cell? ⟨w.heap.size, 0, none⟩ = some (.int .i64 0) := by rw [blk_cell hbx]; rfl
    have d1 : w2.cell? ⟨w.heap.size, 1, none⟩ = some (.int .i64 r) := by rw [blk_cell hbx]; rfl
    have d2 : w2.cell? ⟨w.heap.size, 2, none⟩ = some (.int .i64 n) := by rw [blk_cell hbx]; rfl
    have hlt : w.heap.size < w2.heap.size := blk_lt hbx
    have H2 := Aside0.mk h2
    have HB2 := Aside0.mk hB2
    clear hbx h2 hB2 hb2 c1 c2
    unfold waysV
    go_wp2
    refine still_tail 6 (by kernel_rfl) (by kernel_rfl) ?_
    simp only [List.take_succ_cons, List.take_zero, List.drop_succ_cons, List.drop_zero]
    repeat still_step
    refine wpStill_nil ?_
    go_wp2_with fail
    have hc := nop_calls _ base g t rv kv (H2.out.below (below_drew (below_alloc (Below.refl _ _) (.cells waysV 166)))) (by have := HB.out; have := HB2.out.size; simp; omega) r n HM.out
    rw [HR.out] at hc
    refine hc.mono ?_
    rintro e w3 ⟨rfl, hb3, hp⟩
    go_wp2
    go_ret
    exact ⟨rfl, ((below_drew (below_alloc HB2.out _)).mono HB.out).trans hb3, hp⟩
set_option maxRecDepth 100000 in
theorem do_1 (w : World) (base g : Nat) (t : T) (rv kv : Value) (h : Tab w base g t rv kv) (hb : base ≤ w.heap.size) (r n : Int) (hm : mayF 1 r n = true) (hl : t.rows.length ≤ 1000000 ∧ t.kept.length ≤ 1000000 ∧ 0 ≤ t.size) (hbg : t.begun = true) :
    Calls Try.prog 85 #[.pointer (some ⟨g, 0, none⟩), .agg #[.int .i64 1, .int .i64 r, .int .i64 n]] w (Post base g w (act t 1 r n)) := by
  obtain ⟨R, hR⟩ : ∃ R, act t 1 r n = R := ⟨_, rfl⟩
  rw [hR]
  have HR := Aside0.mk hR
  have HL := Aside0.mk hl
  clear hR hl
  have H := Aside0.mk h
  have HM := Aside0.mk hm
  have HB := Aside0.mk hb
  have HB0 := Aside0.mk (Below.refl w.heap.size w)
  clear h hb hm
  go_enter Try.func85, Try.ntmps85
  go_wp2_with fail
  refine (cfa_Op_may.calls 1 r n true _ (by unfold cfa_Op_may.f; rw [HM.out])).mono ?_
  rintro e w1 ⟨rfl, hb1⟩
  have hbx := blk_below (blk_new w (.cells #[.int .i64 1, .int .i64 r, .int .i64 n] 105)) hb1
  have hB1 := below_step (below_alloc (Below.refl w.heap.size w) (.cells #[.int .i64 1, .int .i64 r, .int .i64 n] 105)) hb1
  have h1 := H.out.below hB1
  have c1 := h1.begun
  have c2 : w1.cell? ⟨w.heap.size, 0, none⟩ = some (.int .i64 1) := by rw [blk_cell hbx]; rfl
  have H1 := Aside0.mk h1
  have HBX := Aside0.mk hbx
  have HB1 := Aside0.mk hB1
  clear hb1 hbx hB1 h1
  rw [hbg] at c1
  clear hbg
  all_goals
    go_wp2_with fail
    refine (ways_calls _).mono ?_
    rintro e w2 ⟨rfl, hb2⟩
    have h2 := H1.out.below hb2
    have hbx := blk_below HBX.out hb2
    have hB2 := below_step HB1.out hb2
    have d0 : w2.cell? ⟨w.heap.size, 0, none⟩ = some (.int .i64 1) := by rw [blk_cell hbx]; rfl
    have d1 : w2.cell? ⟨w.heap.size, 1, none⟩ = some (.int .i64 r) := by rw [blk_cell hbx]; rfl
    have d2 : w2.cell? ⟨w.heap.size, 2, none⟩ = some (.int .i64 n) := by rw [blk_cell hbx]; rfl
    have hlt : w.heap.size < w2.heap.size := blk_lt hbx
    have H2 := Aside0.mk h2
    have HB2 := Aside0.mk hB2
    clear hbx h2 hB2 hb2 c1 c2
    unfold waysV
    go_wp2
    refine still_tail 6 (by kernel_rfl) (by kernel_rfl) ?_
    simp only [List.take_succ_cons, List.take_zero, List.drop_succ_cons, List.drop_zero]
    repeat still_step
    refine wpStill_nil ?_
    go_wp2_with fail
    have hc := advance_calls _ base g t rv kv (H2.out.below (below_drew (below_alloc (Below.refl _ _) (.cells waysV 166)))) (by have := HB.out; have := HB2.out.size; simp; omega) r n HM.out HL.out.1 HL.out.2.2
    rw [HR.out] at hc
    refine hc.mono ?_
    rintro e w3 ⟨rfl, hb3, hp⟩
    go_wp2
    go_ret
    exact ⟨rfl, ((below_drew (below_alloc HB2.out _)).mono HB.out).trans hb3, hp⟩
set_option maxRecDepth 100000 in
theorem do_2 (w : World) (base g : Nat) (t : T) (rv kv : Value) (h : Tab w base g t rv kv) (hb : base ≤ w.heap.size) (r n : Int) (hm : mayF 2 r n = true) (hl : t.rows.length ≤ 1000000 ∧ t.kept.length ≤ 1000000 ∧ 0 ≤ t.size) :
    Calls Try.prog 85 #[.pointer (some ⟨g, 0, none⟩), .agg #[.int .i64 2, .int .i64 r, .int .i64 n]] w (Post base g w (act t 2 r n)) := by
  obtain ⟨R, hR⟩ : ∃ R, act t 2 r n = R := ⟨_, rfl⟩
  rw [hR]
  have HR := Aside0.mk hR
  have HL := Aside0.mk hl
  clear hR hl
  have H := Aside0.mk h
  have HM := Aside0.mk hm
  have HB := Aside0.mk hb
  have HB0 := Aside0.mk (Below.refl w.heap.size w)
  clear h hb hm
  go_enter Try.func85, Try.ntmps85
  go_wp2_with fail
  refine (cfa_Op_may.calls 2 r n true _ (by unfold cfa_Op_may.f; rw [HM.out])).mono ?_
  rintro e w1 ⟨rfl, hb1⟩
  have hbx := blk_below (blk_new w (.cells #[.int .i64 2, .int .i64 r, .int .i64 n] 105)) hb1
  have hB1 := below_step (below_alloc (Below.refl w.heap.size w) (.cells #[.int .i64 2, .int .i64 r, .int .i64 n] 105)) hb1
  have h1 := H.out.below hB1
  have c1 := h1.begun
  have c2 : w1.cell? ⟨w.heap.size, 0, none⟩ = some (.int .i64 2) := by rw [blk_cell hbx]; rfl
  have H1 := Aside0.mk h1
  have HBX := Aside0.mk hbx
  have HB1 := Aside0.mk hB1
  clear hb1 hbx hB1 h1
  cases hbg : t.begun <;> rw [hbg] at c1 <;> clear hbg
  all_goals
    go_wp2_with fail
    refine (ways_calls _).mono ?_
    rintro e w2 ⟨rfl, hb2⟩
    have h2 := H1.out.below hb2
    have hbx := blk_below HBX.out hb2
    have hB2 := below_step HB1.out hb2
    have d0 : w2.cell? ⟨w.heap.size, 0, none⟩ = some (.int .i64 2) := by rw [blk_cell hbx]; rfl
    have d1 : w2.cell? ⟨w.heap.size, 1, none⟩ = some (.int .i64 r) := by rw [blk_cell hbx]; rfl
    have d2 : w2.cell? ⟨w.heap.size, 2, none⟩ = some (.int .i64 n) := by rw [blk_cell hbx]; rfl
    have hlt : w.heap.size < w2.heap.size := blk_lt hbx
    have H2 := Aside0.mk h2
    have HB2 := Aside0.mk hB2
    clear hbx h2 hB2 hb2 c1 c2
    unfold waysV
    go_wp2
    refine still_tail 6 (by kernel_rfl) (by kernel_rfl) ?_
    simp only [List.take_succ_cons, List.take_zero, List.drop_succ_cons, List.drop_zero]
    repeat still_step
    refine wpStill_nil ?_
    go_wp2_with fail
    have hc := defCfa_calls _ base g t rv kv (H2.out.below (below_drew (below_alloc (Below.refl _ _) (.cells waysV 166)))) (by have := HB.out; have := HB2.out.size; simp; omega) r n HM.out
    rw [HR.out] at hc
    refine hc.mono ?_
    rintro e w3 ⟨rfl, hb3, hp⟩
    go_wp2
    go_ret
    exact ⟨rfl, ((below_drew (below_alloc HB2.out _)).mono HB.out).trans hb3, hp⟩
set_option maxRecDepth 100000 in
theorem do_3 (w : World) (base g : Nat) (t : T) (rv kv : Value) (h : Tab w base g t rv kv) (hb : base ≤ w.heap.size) (r n : Int) (hm : mayF 3 r n = true) (hl : t.rows.length ≤ 1000000 ∧ t.kept.length ≤ 1000000 ∧ 0 ≤ t.size) :
    Calls Try.prog 85 #[.pointer (some ⟨g, 0, none⟩), .agg #[.int .i64 3, .int .i64 r, .int .i64 n]] w (Post base g w (act t 3 r n)) := by
  obtain ⟨R, hR⟩ : ∃ R, act t 3 r n = R := ⟨_, rfl⟩
  rw [hR]
  have HR := Aside0.mk hR
  have HL := Aside0.mk hl
  clear hR hl
  have H := Aside0.mk h
  have HM := Aside0.mk hm
  have HB := Aside0.mk hb
  have HB0 := Aside0.mk (Below.refl w.heap.size w)
  clear h hb hm
  go_enter Try.func85, Try.ntmps85
  go_wp2_with fail
  refine (cfa_Op_may.calls 3 r n true _ (by unfold cfa_Op_may.f; rw [HM.out])).mono ?_
  rintro e w1 ⟨rfl, hb1⟩
  have hbx := blk_below (blk_new w (.cells #[.int .i64 3, .int .i64 r, .int .i64 n] 105)) hb1
  have hB1 := below_step (below_alloc (Below.refl w.heap.size w) (.cells #[.int .i64 3, .int .i64 r, .int .i64 n] 105)) hb1
  have h1 := H.out.below hB1
  have c1 := h1.begun
  have c2 : w1.cell? ⟨w.heap.size, 0, none⟩ = some (.int .i64 3) := by rw [blk_cell hbx]; rfl
  have H1 := Aside0.mk h1
  have HBX := Aside0.mk hbx
  have HB1 := Aside0.mk hB1
  clear hb1 hbx hB1 h1
  cases hbg : t.begun <;> rw [hbg] at c1 <;> clear hbg
  all_goals
    go_wp2_with fail
    refine (ways_calls _).mono ?_
    rintro e w2 ⟨rfl, hb2⟩
    have h2 := H1.out.below hb2
    have hbx := blk_below HBX.out hb2
    have hB2 := below_step HB1.out hb2
    have d0 : w2.cell? ⟨w.heap.size, 0, none⟩ = some (.int .i64 3) := by rw [blk_cell hbx]; rfl
    have d1 : w2.cell? ⟨w.heap.size, 1, none⟩ = some (.int .i64 r) := by rw [blk_cell hbx]; rfl
    have d2 : w2.cell? ⟨w.heap.size, 2, none⟩ = some (.int .i64 n) := by rw [blk_cell hbx]; rfl
    have hlt : w.heap.size < w2.heap.size := blk_lt hbx
    have H2 := Aside0.mk h2
    have HB2 := Aside0.mk hB2
    clear hbx h2 hB2 hb2 c1 c2
    unfold waysV
    go_wp2
    refine still_tail 6 (by kernel_rfl) (by kernel_rfl) ?_
    simp only [List.take_succ_cons, List.take_zero, List.drop_succ_cons, List.drop_zero]
    repeat still_step
    refine wpStill_nil ?_
    go_wp2_with fail
    have hc := defOffset_calls _ base g t rv kv (H2.out.below (below_drew (below_alloc (Below.refl _ _) (.cells waysV 166)))) (by have := HB.out; have := HB2.out.size; simp; omega) r n HM.out
    rw [HR.out] at hc
    refine hc.mono ?_
    rintro e w3 ⟨rfl, hb3, hp⟩
    go_wp2
    go_ret
    exact ⟨rfl, ((below_drew (below_alloc HB2.out _)).mono HB.out).trans hb3, hp⟩
set_option maxRecDepth 100000 in
theorem do_4 (w : World) (base g : Nat) (t : T) (rv kv : Value) (h : Tab w base g t rv kv) (hb : base ≤ w.heap.size) (r n : Int) (hm : mayF 4 r n = true) (hl : t.rows.length ≤ 1000000 ∧ t.kept.length ≤ 1000000 ∧ 0 ≤ t.size) :
    Calls Try.prog 85 #[.pointer (some ⟨g, 0, none⟩), .agg #[.int .i64 4, .int .i64 r, .int .i64 n]] w (Post base g w (act t 4 r n)) := by
  obtain ⟨R, hR⟩ : ∃ R, act t 4 r n = R := ⟨_, rfl⟩
  rw [hR]
  have HR := Aside0.mk hR
  have HL := Aside0.mk hl
  clear hR hl
  have H := Aside0.mk h
  have HM := Aside0.mk hm
  have HB := Aside0.mk hb
  have HB0 := Aside0.mk (Below.refl w.heap.size w)
  clear h hb hm
  go_enter Try.func85, Try.ntmps85
  go_wp2_with fail
  refine (cfa_Op_may.calls 4 r n true _ (by unfold cfa_Op_may.f; rw [HM.out])).mono ?_
  rintro e w1 ⟨rfl, hb1⟩
  have hbx := blk_below (blk_new w (.cells #[.int .i64 4, .int .i64 r, .int .i64 n] 105)) hb1
  have hB1 := below_step (below_alloc (Below.refl w.heap.size w) (.cells #[.int .i64 4, .int .i64 r, .int .i64 n] 105)) hb1
  have h1 := H.out.below hB1
  have c1 := h1.begun
  have c2 : w1.cell? ⟨w.heap.size, 0, none⟩ = some (.int .i64 4) := by rw [blk_cell hbx]; rfl
  have H1 := Aside0.mk h1
  have HBX := Aside0.mk hbx
  have HB1 := Aside0.mk hB1
  clear hb1 hbx hB1 h1
  cases hbg : t.begun <;> rw [hbg] at c1 <;> clear hbg
  all_goals
    go_wp2_with fail
    refine (ways_calls _).mono ?_
    rintro e w2 ⟨rfl, hb2⟩
    have h2 := H1.out.below hb2
    have hbx := blk_below HBX.out hb2
    have hB2 := below_step HB1.out hb2
    have d0 : w2.cell? ⟨w.heap.size, 0, none⟩ = some (.int .i64 4) := by rw [blk_cell hbx]; rfl
    have d1 : w2.cell? ⟨w.heap.size, 1, none⟩ = some (.int .i64 r) := by rw [blk_cell hbx]; rfl
    have d2 : w2.cell? ⟨w.heap.size, 2, none⟩ = some (.int .i64 n) := by rw [blk_cell hbx]; rfl
    have hlt : w.heap.size < w2.heap.size := blk_lt hbx
    have H2 := Aside0.mk h2
    have HB2 := Aside0.mk hB2
    clear hbx h2 hB2 hb2 c1 c2
    unfold waysV
    go_wp2
    refine still_tail 6 (by kernel_rfl) (by kernel_rfl) ?_
    simp only [List.take_succ_cons, List.take_zero, List.drop_succ_cons, List.drop_zero]
    repeat still_step
    refine wpStill_nil ?_
    go_wp2_with fail
    have hc := defRegister_calls _ base g t rv kv (H2.out.below (below_drew (below_alloc (Below.refl _ _) (.cells waysV 166)))) (by have := HB.out; have := HB2.out.size; simp; omega) r n HM.out
    rw [HR.out] at hc
    refine hc.mono ?_
    rintro e w3 ⟨rfl, hb3, hp⟩
    go_wp2
    go_ret
    exact ⟨rfl, ((below_drew (below_alloc HB2.out _)).mono HB.out).trans hb3, hp⟩
set_option maxRecDepth 100000 in
theorem do_5 (w : World) (base g : Nat) (t : T) (rv kv : Value) (h : Tab w base g t rv kv) (hb : base ≤ w.heap.size) (r n : Int) (hm : mayF 5 r n = true) (hl : t.rows.length ≤ 1000000 ∧ t.kept.length ≤ 1000000 ∧ 0 ≤ t.size) :
    Calls Try.prog 85 #[.pointer (some ⟨g, 0, none⟩), .agg #[.int .i64 5, .int .i64 r, .int .i64 n]] w (Post base g w (act t 5 r n)) := by
  obtain ⟨R, hR⟩ : ∃ R, act t 5 r n = R := ⟨_, rfl⟩
  rw [hR]
  have HR := Aside0.mk hR
  have HL := Aside0.mk hl
  clear hR hl
  have H := Aside0.mk h
  have HM := Aside0.mk hm
  have HB := Aside0.mk hb
  have HB0 := Aside0.mk (Below.refl w.heap.size w)
  clear h hb hm
  go_enter Try.func85, Try.ntmps85
  go_wp2_with fail
  refine (cfa_Op_may.calls 5 r n true _ (by unfold cfa_Op_may.f; rw [HM.out])).mono ?_
  rintro e w1 ⟨rfl, hb1⟩
  have hbx := blk_below (blk_new w (.cells #[.int .i64 5, .int .i64 r, .int .i64 n] 105)) hb1
  have hB1 := below_step (below_alloc (Below.refl w.heap.size w) (.cells #[.int .i64 5, .int .i64 r, .int .i64 n] 105)) hb1
  have h1 := H.out.below hB1
  have c1 := h1.begun
  have c2 : w1.cell? ⟨w.heap.size, 0, none⟩ = some (.int .i64 5) := by rw [blk_cell hbx]; rfl
  have H1 := Aside0.mk h1
  have HBX := Aside0.mk hbx
  have HB1 := Aside0.mk hB1
  clear hb1 hbx hB1 h1
  cases hbg : t.begun <;> rw [hbg] at c1 <;> clear hbg
  all_goals
    go_wp2_with fail
    refine (ways_calls _).mono ?_
    rintro e w2 ⟨rfl, hb2⟩
    have h2 := H1.out.below hb2
    have hbx := blk_below HBX.out hb2
    have hB2 := below_step HB1.out hb2
    have d0 : w2.cell? ⟨w.heap.size, 0, none⟩ = some (.int .i64 5) := by rw [blk_cell hbx]; rfl
    have d1 : w2.cell? ⟨w.heap.size, 1, none⟩ = some (.int .i64 r) := by rw [blk_cell hbx]; rfl
    have d2 : w2.cell? ⟨w.heap.size, 2, none⟩ = some (.int .i64 n) := by rw [blk_cell hbx]; rfl
    have hlt : w.heap.size < w2.heap.size := blk_lt hbx
    have H2 := Aside0.mk h2
    have HB2 := Aside0.mk hB2
    clear hbx h2 hB2 hb2 c1 c2
    unfold waysV
    go_wp2
    refine still_tail 6 (by kernel_rfl) (by kernel_rfl) ?_
    simp only [List.take_succ_cons, List.take_zero, List.drop_succ_cons, List.drop_zero]
    repeat still_step
    refine wpStill_nil ?_
    go_wp2_with fail
    have hc := offset_calls _ base g t rv kv (H2.out.below (below_drew (below_alloc (Below.refl _ _) (.cells waysV 166)))) (by have := HB.out; have := HB2.out.size; simp; omega) r n HM.out
    rw [HR.out] at hc
    refine hc.mono ?_
    rintro e w3 ⟨rfl, hb3, hp⟩
    go_wp2
    go_ret
    exact ⟨rfl, ((below_drew (below_alloc HB2.out _)).mono HB.out).trans hb3, hp⟩
set_option maxRecDepth 100000 in
theorem do_6 (w : World) (base g : Nat) (t : T) (rv kv : Value) (h : Tab w base g t rv kv) (hb : base ≤ w.heap.size) (r n : Int) (hm : mayF 6 r n = true) (hl : t.rows.length ≤ 1000000 ∧ t.kept.length ≤ 1000000 ∧ 0 ≤ t.size) (hbg : t.begun = true) :
    Calls Try.prog 85 #[.pointer (some ⟨g, 0, none⟩), .agg #[.int .i64 6, .int .i64 r, .int .i64 n]] w (Post base g w (act t 6 r n)) := by
  obtain ⟨R, hR⟩ : ∃ R, act t 6 r n = R := ⟨_, rfl⟩
  rw [hR]
  have HR := Aside0.mk hR
  have HL := Aside0.mk hl
  clear hR hl
  have H := Aside0.mk h
  have HM := Aside0.mk hm
  have HB := Aside0.mk hb
  have HB0 := Aside0.mk (Below.refl w.heap.size w)
  clear h hb hm
  go_enter Try.func85, Try.ntmps85
  go_wp2_with fail
  refine (cfa_Op_may.calls 6 r n true _ (by unfold cfa_Op_may.f; rw [HM.out])).mono ?_
  rintro e w1 ⟨rfl, hb1⟩
  have hbx := blk_below (blk_new w (.cells #[.int .i64 6, .int .i64 r, .int .i64 n] 105)) hb1
  have hB1 := below_step (below_alloc (Below.refl w.heap.size w) (.cells #[.int .i64 6, .int .i64 r, .int .i64 n] 105)) hb1
  have h1 := H.out.below hB1
  have c1 := h1.begun
  have c2 : w1.cell? ⟨w.heap.size, 0, none⟩ = some (.int .i64 6) := by rw [blk_cell hbx]; rfl
  have H1 := Aside0.mk h1
  have HBX := Aside0.mk hbx
  have HB1 := Aside0.mk hB1
  clear hb1 hbx hB1 h1
  rw [hbg] at c1
  clear hbg
  all_goals
    go_wp2_with fail
    refine (ways_calls _).mono ?_
    rintro e w2 ⟨rfl, hb2⟩
    have h2 := H1.out.below hb2
    have hbx := blk_below HBX.out hb2
    have hB2 := below_step HB1.out hb2
    have d0 : w2.cell? ⟨w.heap.size, 0, none⟩ = some (.int .i64 6) := by rw [blk_cell hbx]; rfl
    have d1 : w2.cell? ⟨w.heap.size, 1, none⟩ = some (.int .i64 r) := by rw [blk_cell hbx]; rfl
    have d2 : w2.cell? ⟨w.heap.size, 2, none⟩ = some (.int .i64 n) := by rw [blk_cell hbx]; rfl
    have hlt : w.heap.size < w2.heap.size := blk_lt hbx
    have H2 := Aside0.mk h2
    have HB2 := Aside0.mk hB2
    clear hbx h2 hB2 hb2 c1 c2
    unfold waysV
    go_wp2
    refine still_tail 6 (by kernel_rfl) (by kernel_rfl) ?_
    simp only [List.take_succ_cons, List.take_zero, List.drop_succ_cons, List.drop_zero]
    repeat still_step
    refine wpStill_nil ?_
    go_wp2_with fail
    have hc := restore_calls _ base g t rv kv (H2.out.below (below_drew (below_alloc (Below.refl _ _) (.cells waysV 166)))) (by have := HB.out; have := HB2.out.size; simp; omega) r n HM.out
    rw [HR.out] at hc
    refine hc.mono ?_
    rintro e w3 ⟨rfl, hb3, hp⟩
    go_wp2
    go_ret
    exact ⟨rfl, ((below_drew (below_alloc HB2.out _)).mono HB.out).trans hb3, hp⟩
set_option maxRecDepth 100000 in
theorem do_7 (w : World) (base g : Nat) (t : T) (rv kv : Value) (h : Tab w base g t rv kv) (hb : base ≤ w.heap.size) (r n : Int) (hm : mayF 7 r n = true) (hl : t.rows.length ≤ 1000000 ∧ t.kept.length ≤ 1000000 ∧ 0 ≤ t.size) :
    Calls Try.prog 85 #[.pointer (some ⟨g, 0, none⟩), .agg #[.int .i64 7, .int .i64 r, .int .i64 n]] w (Post base g w (act t 7 r n)) := by
  obtain ⟨R, hR⟩ : ∃ R, act t 7 r n = R := ⟨_, rfl⟩
  rw [hR]
  have HR := Aside0.mk hR
  have HL := Aside0.mk hl
  clear hR hl
  have H := Aside0.mk h
  have HM := Aside0.mk hm
  have HB := Aside0.mk hb
  have HB0 := Aside0.mk (Below.refl w.heap.size w)
  clear h hb hm
  go_enter Try.func85, Try.ntmps85
  go_wp2_with fail
  refine (cfa_Op_may.calls 7 r n true _ (by unfold cfa_Op_may.f; rw [HM.out])).mono ?_
  rintro e w1 ⟨rfl, hb1⟩
  have hbx := blk_below (blk_new w (.cells #[.int .i64 7, .int .i64 r, .int .i64 n] 105)) hb1
  have hB1 := below_step (below_alloc (Below.refl w.heap.size w) (.cells #[.int .i64 7, .int .i64 r, .int .i64 n] 105)) hb1
  have h1 := H.out.below hB1
  have c1 := h1.begun
  have c2 : w1.cell? ⟨w.heap.size, 0, none⟩ = some (.int .i64 7) := by rw [blk_cell hbx]; rfl
  have H1 := Aside0.mk h1
  have HBX := Aside0.mk hbx
  have HB1 := Aside0.mk hB1
  clear hb1 hbx hB1 h1
  cases hbg : t.begun <;> rw [hbg] at c1 <;> clear hbg
  all_goals
    go_wp2_with fail
    refine (ways_calls _).mono ?_
    rintro e w2 ⟨rfl, hb2⟩
    have h2 := H1.out.below hb2
    have hbx := blk_below HBX.out hb2
    have hB2 := below_step HB1.out hb2
    have d0 : w2.cell? ⟨w.heap.size, 0, none⟩ = some (.int .i64 7) := by rw [blk_cell hbx]; rfl
    have d1 : w2.cell? ⟨w.heap.size, 1, none⟩ = some (.int .i64 r) := by rw [blk_cell hbx]; rfl
    have d2 : w2.cell? ⟨w.heap.size, 2, none⟩ = some (.int .i64 n) := by rw [blk_cell hbx]; rfl
    have hlt : w.heap.size < w2.heap.size := blk_lt hbx
    have H2 := Aside0.mk h2
    have HB2 := Aside0.mk hB2
    clear hbx h2 hB2 hb2 c1 c2
    unfold waysV
    go_wp2
    refine still_tail 6 (by kernel_rfl) (by kernel_rfl) ?_
    simp only [List.take_succ_cons, List.take_zero, List.drop_succ_cons, List.drop_zero]
    repeat still_step
    refine wpStill_nil ?_
    go_wp2_with fail
    have hc := undefined_calls _ base g t rv kv (H2.out.below (below_drew (below_alloc (Below.refl _ _) (.cells waysV 166)))) (by have := HB.out; have := HB2.out.size; simp; omega) r n HM.out
    rw [HR.out] at hc
    refine hc.mono ?_
    rintro e w3 ⟨rfl, hb3, hp⟩
    go_wp2
    go_ret
    exact ⟨rfl, ((below_drew (below_alloc HB2.out _)).mono HB.out).trans hb3, hp⟩
set_option maxRecDepth 100000 in
theorem do_8 (w : World) (base g : Nat) (t : T) (rv kv : Value) (h : Tab w base g t rv kv) (hb : base ≤ w.heap.size) (r n : Int) (hm : mayF 8 r n = true) (hl : t.rows.length ≤ 1000000 ∧ t.kept.length ≤ 1000000 ∧ 0 ≤ t.size) :
    Calls Try.prog 85 #[.pointer (some ⟨g, 0, none⟩), .agg #[.int .i64 8, .int .i64 r, .int .i64 n]] w (Post base g w (act t 8 r n)) := by
  obtain ⟨R, hR⟩ : ∃ R, act t 8 r n = R := ⟨_, rfl⟩
  rw [hR]
  have HR := Aside0.mk hR
  have HL := Aside0.mk hl
  clear hR hl
  have H := Aside0.mk h
  have HM := Aside0.mk hm
  have HB := Aside0.mk hb
  have HB0 := Aside0.mk (Below.refl w.heap.size w)
  clear h hb hm
  go_enter Try.func85, Try.ntmps85
  go_wp2_with fail
  refine (cfa_Op_may.calls 8 r n true _ (by unfold cfa_Op_may.f; rw [HM.out])).mono ?_
  rintro e w1 ⟨rfl, hb1⟩
  have hbx := blk_below (blk_new w (.cells #[.int .i64 8, .int .i64 r, .int .i64 n] 105)) hb1
  have hB1 := below_step (below_alloc (Below.refl w.heap.size w) (.cells #[.int .i64 8, .int .i64 r, .int .i64 n] 105)) hb1
  have h1 := H.out.below hB1
  have c1 := h1.begun
  have c2 : w1.cell? ⟨w.heap.size, 0, none⟩ = some (.int .i64 8) := by rw [blk_cell hbx]; rfl
  have H1 := Aside0.mk h1
  have HBX := Aside0.mk hbx
  have HB1 := Aside0.mk hB1
  clear hb1 hbx hB1 h1
  cases hbg : t.begun <;> rw [hbg] at c1 <;> clear hbg
  all_goals
    go_wp2_with fail
    refine (ways_calls _).mono ?_
    rintro e w2 ⟨rfl, hb2⟩
    have h2 := H1.out.below hb2
    have hbx := blk_below HBX.out hb2
    have hB2 := below_step HB1.out hb2
    have d0 : w2.cell? ⟨w.heap.size, 0, none⟩ = some (.int .i64 8) := by rw [blk_cell hbx]; rfl
    have d1 : w2.cell? ⟨w.heap.size, 1, none⟩ = some (.int .i64 r) := by rw [blk_cell hbx]; rfl
    have d2 : w2.cell? ⟨w.heap.size, 2, none⟩ = some (.int .i64 n) := by rw [blk_cell hbx]; rfl
    have hlt : w.heap.size < w2.heap.size := blk_lt hbx
    have H2 := Aside0.mk h2
    have HB2 := Aside0.mk hB2
    clear hbx h2 hB2 hb2 c1 c2
    unfold waysV
    go_wp2
    refine still_tail 6 (by kernel_rfl) (by kernel_rfl) ?_
    simp only [List.take_succ_cons, List.take_zero, List.drop_succ_cons, List.drop_zero]
    repeat still_step
    refine wpStill_nil ?_
    go_wp2_with fail
    have hc := sameValue_calls _ base g t rv kv (H2.out.below (below_drew (below_alloc (Below.refl _ _) (.cells waysV 166)))) (by have := HB.out; have := HB2.out.size; simp; omega) r n HM.out
    rw [HR.out] at hc
    refine hc.mono ?_
    rintro e w3 ⟨rfl, hb3, hp⟩
    go_wp2
    go_ret
    exact ⟨rfl, ((below_drew (below_alloc HB2.out _)).mono HB.out).trans hb3, hp⟩
set_option maxRecDepth 100000 in
theorem do_9 (w : World) (base g : Nat) (t : T) (rv kv : Value) (h : Tab w base g t rv kv) (hb : base ≤ w.heap.size) (r n : Int) (hm : mayF 9 r n = true) (hl : t.rows.length ≤ 1000000 ∧ t.kept.length ≤ 1000000 ∧ 0 ≤ t.size) (hbg : t.begun = true) :
    Calls Try.prog 85 #[.pointer (some ⟨g, 0, none⟩), .agg #[.int .i64 9, .int .i64 r, .int .i64 n]] w (Post base g w (act t 9 r n)) := by
  obtain ⟨R, hR⟩ : ∃ R, act t 9 r n = R := ⟨_, rfl⟩
  rw [hR]
  have HR := Aside0.mk hR
  have HL := Aside0.mk hl
  clear hR hl
  have H := Aside0.mk h
  have HM := Aside0.mk hm
  have HB := Aside0.mk hb
  have HB0 := Aside0.mk (Below.refl w.heap.size w)
  clear h hb hm
  go_enter Try.func85, Try.ntmps85
  go_wp2_with fail
  refine (cfa_Op_may.calls 9 r n true _ (by unfold cfa_Op_may.f; rw [HM.out])).mono ?_
  rintro e w1 ⟨rfl, hb1⟩
  have hbx := blk_below (blk_new w (.cells #[.int .i64 9, .int .i64 r, .int .i64 n] 105)) hb1
  have hB1 := below_step (below_alloc (Below.refl w.heap.size w) (.cells #[.int .i64 9, .int .i64 r, .int .i64 n] 105)) hb1
  have h1 := H.out.below hB1
  have c1 := h1.begun
  have c2 : w1.cell? ⟨w.heap.size, 0, none⟩ = some (.int .i64 9) := by rw [blk_cell hbx]; rfl
  have H1 := Aside0.mk h1
  have HBX := Aside0.mk hbx
  have HB1 := Aside0.mk hB1
  clear hb1 hbx hB1 h1
  rw [hbg] at c1
  clear hbg
  all_goals
    go_wp2_with fail
    refine (ways_calls _).mono ?_
    rintro e w2 ⟨rfl, hb2⟩
    have h2 := H1.out.below hb2
    have hbx := blk_below HBX.out hb2
    have hB2 := below_step HB1.out hb2
    have d0 : w2.cell? ⟨w.heap.size, 0, none⟩ = some (.int .i64 9) := by rw [blk_cell hbx]; rfl
    have d1 : w2.cell? ⟨w.heap.size, 1, none⟩ = some (.int .i64 r) := by rw [blk_cell hbx]; rfl
    have d2 : w2.cell? ⟨w.heap.size, 2, none⟩ = some (.int .i64 n) := by rw [blk_cell hbx]; rfl
    have hlt : w.heap.size < w2.heap.size := blk_lt hbx
    have H2 := Aside0.mk h2
    have HB2 := Aside0.mk hB2
    clear hbx h2 hB2 hb2 c1 c2
    unfold waysV
    go_wp2
    refine still_tail 6 (by kernel_rfl) (by kernel_rfl) ?_
    simp only [List.take_succ_cons, List.take_zero, List.drop_succ_cons, List.drop_zero]
    repeat still_step
    refine wpStill_nil ?_
    go_wp2_with fail
    have hc := remember_calls _ base g t rv kv (H2.out.below (below_drew (below_alloc (Below.refl _ _) (.cells waysV 166)))) (by have := HB.out; have := HB2.out.size; simp; omega) r n HM.out HL.out.2.1
    rw [HR.out] at hc
    refine hc.mono ?_
    rintro e w3 ⟨rfl, hb3, hp⟩
    go_wp2
    go_ret
    exact ⟨rfl, ((below_drew (below_alloc HB2.out _)).mono HB.out).trans hb3, hp⟩
set_option maxRecDepth 100000 in
theorem do_10 (w : World) (base g : Nat) (t : T) (rv kv : Value) (h : Tab w base g t rv kv) (hb : base ≤ w.heap.size) (r n : Int) (hm : mayF 10 r n = true) (hl : t.rows.length ≤ 1000000 ∧ t.kept.length ≤ 1000000 ∧ 0 ≤ t.size) (hbg : t.begun = true) :
    Calls Try.prog 85 #[.pointer (some ⟨g, 0, none⟩), .agg #[.int .i64 10, .int .i64 r, .int .i64 n]] w (Post base g w (act t 10 r n)) := by
  obtain ⟨R, hR⟩ : ∃ R, act t 10 r n = R := ⟨_, rfl⟩
  rw [hR]
  have HR := Aside0.mk hR
  have HL := Aside0.mk hl
  clear hR hl
  have H := Aside0.mk h
  have HM := Aside0.mk hm
  have HB := Aside0.mk hb
  have HB0 := Aside0.mk (Below.refl w.heap.size w)
  clear h hb hm
  go_enter Try.func85, Try.ntmps85
  go_wp2_with fail
  refine (cfa_Op_may.calls 10 r n true _ (by unfold cfa_Op_may.f; rw [HM.out])).mono ?_
  rintro e w1 ⟨rfl, hb1⟩
  have hbx := blk_below (blk_new w (.cells #[.int .i64 10, .int .i64 r, .int .i64 n] 105)) hb1
  have hB1 := below_step (below_alloc (Below.refl w.heap.size w) (.cells #[.int .i64 10, .int .i64 r, .int .i64 n] 105)) hb1
  have h1 := H.out.below hB1
  have c1 := h1.begun
  have c2 : w1.cell? ⟨w.heap.size, 0, none⟩ = some (.int .i64 10) := by rw [blk_cell hbx]; rfl
  have H1 := Aside0.mk h1
  have HBX := Aside0.mk hbx
  have HB1 := Aside0.mk hB1
  clear hb1 hbx hB1 h1
  rw [hbg] at c1
  clear hbg
  all_goals
    go_wp2_with fail
    refine (ways_calls _).mono ?_
    rintro e w2 ⟨rfl, hb2⟩
    have h2 := H1.out.below hb2
    have hbx := blk_below HBX.out hb2
    have hB2 := below_step HB1.out hb2
    have d0 : w2.cell? ⟨w.heap.size, 0, none⟩ = some (.int .i64 10) := by rw [blk_cell hbx]; rfl
    have d1 : w2.cell? ⟨w.heap.size, 1, none⟩ = some (.int .i64 r) := by rw [blk_cell hbx]; rfl
    have d2 : w2.cell? ⟨w.heap.size, 2, none⟩ = some (.int .i64 n) := by rw [blk_cell hbx]; rfl
    have hlt : w.heap.size < w2.heap.size := blk_lt hbx
    have H2 := Aside0.mk h2
    have HB2 := Aside0.mk hB2
    clear hbx h2 hB2 hb2 c1 c2
    unfold waysV
    go_wp2
    refine still_tail 6 (by kernel_rfl) (by kernel_rfl) ?_
    simp only [List.take_succ_cons, List.take_zero, List.drop_succ_cons, List.drop_zero]
    repeat still_step
    refine wpStill_nil ?_
    go_wp2_with fail
    have hc := recall_calls _ base g t rv kv (H2.out.below (below_drew (below_alloc (Below.refl _ _) (.cells waysV 166)))) (by have := HB.out; have := HB2.out.size; simp; omega) r n HM.out HL.out.2.1
    rw [HR.out] at hc
    refine hc.mono ?_
    rintro e w3 ⟨rfl, hb3, hp⟩
    go_wp2
    go_ret
    exact ⟨rfl, ((below_drew (below_alloc HB2.out _)).mono HB.out).trans hb3, hp⟩
end Go.Proofs.Ytfgfnflhdabmcaa.Cfa
end
section
namespace Go.Proofs.Ytfgfnflhdabmcaa.Cfa
set_option linter.unusedVariables false
set_option linter.unusedSimpArgs false
open Go.RowKit Go.Proofs.Ytfgfnflhdabmcaa.G Go.Proofs.YtfgfnflhdabmcaaW.PrintWords Go.Proofs.YtfgfnflhdabmcaaW.PrintLast Go.Proofs.YtfgfnflhdabmcaaW.PrintMore
set_option maxRecDepth 100000 in
theorem do_not (w : World) (base g : Nat) (t : T) (rv kv : Value) (h : Tab w base g t rv kv) (hb : base ≤ w.heap.size) (k r n : Int) (hm : mayF k r n = false) :
    Calls Try.prog 85 #[.pointer (some ⟨g, 0, none⟩), .agg #[.int .i64 k, .int .i64 r, .int .i64 n]] w fun e w' => e = .returned (.bool false) ∧ Below base w w' := by
  have HM := Aside0.mk hm
  have HB := Aside0.mk hb
  clear h hb hm
  go_enter Try.func85, Try.ntmps85
  go_wp2_with fail
  refine (cfa_Op_may.calls k r n false _ (by unfold cfa_Op_may.f; rw [HM.out])).mono ?_
  rintro e w1 ⟨rfl, hb1⟩
  go_wp2
  go_ret
  exact ⟨rfl, (below_step (below_alloc (Below.refl w.heap.size w) _) hb1).mono HB.out⟩
set_option maxRecDepth 100000 in
theorem do_early (w : World) (base g : Nat) (t : T) (rv kv : Value) (h : Tab w base g t rv kv) (hb : base ≤ w.heap.size) (k r n : Int) (hm : mayF k r n = true) (hbg : t.begun = false) (hk : k = 1 ∨ k = 9 ∨ k = 10 ∨ k = 6) :
    Calls Try.prog 85 #[.pointer (some ⟨g, 0, none⟩), .agg #[.int .i64 k, .int .i64 r, .int .i64 n]] w fun e w' => e = .returned (.bool false) ∧ Below base w w' := by
  have HM := Aside0.mk hm
  have HB := Aside0.mk hb
  have H := Aside0.mk h
  clear h hb hm
  rcases hk with rfl | rfl | rfl | rfl
  all_goals
    go_enter Try.func85, Try.ntmps85
    go_wp2_with fail
    refine (cfa_Op_may.calls _ r n true _ (by unfold cfa_Op_may.f; rw [HM.out])).mono ?_
    rintro e w1 ⟨rfl, hb1⟩
    have hbx := blk_below (blk_new w _) hb1
    have hB1 := below_step (below_alloc (Below.refl w.heap.size w) _) hb1
    have h1 := H.out.below hB1
    have c1 := h1.begun
    have c2 := blk_cell hbx 0
    simp only [List.getElem?_toArray, List.getElem?_cons_zero] at c2
    rw [hbg] at c1
    have HB1 := Aside0.mk (hB1.mono HB.out)
    clear hb1 hbx hB1 h1
    go_wp2
    go_ret
    exact ⟨rfl, HB1.out⟩
theorem do_calls (w : World) (base g : Nat) (t : T) (rv kv : Value) (h : Tab w base g t rv kv) (hb : base ≤ w.heap.size) (k r n : Int) (hl : t.rows.length ≤ 1000000 ∧ t.kept.length ≤ 1000000 ∧ 0 ≤ t.size) :
    Calls Try.prog 85 #[.pointer (some ⟨g, 0, none⟩), .agg #[.int .i64 k, .int .i64 r, .int .i64 n]] w (Post base g w (does t k r n)) := by
  unfold does
  by_cases hm : mayF k r n = false
  · rw [if_pos hm]
    refine (do_not w base g t rv kv h hb k r n hm).mono ?_
    rintro e w' ⟨rfl, hbb⟩
    exact ⟨rfl, hbb, fun _ e => by cases e⟩
  · rw [if_neg hm]
    have hm1 : mayF k r n = true := by simpa using hm
    by_cases hbg : t.begun = false ∧ (k = 1 ∨ k = 9 ∨ k = 10 ∨ k = 6)
    · rw [if_pos hbg]
      refine (do_early w base g t rv kv h hb k r n hm1 hbg.1 hbg.2).mono ?_
      rintro e w' ⟨rfl, hbb⟩
      exact ⟨rfl, hbb, fun _ e => by cases e⟩
    · rw [if_neg hbg]
      have hbt : (k = 1 ∨ k = 9 ∨ k = 10 ∨ k = 6) → t.begun = true := fun hk => by
        cases hb2 : t.begun with
        | true => rfl
        | false => exact absurd ⟨hb2, hk⟩ hbg
      have hk := may_k hm1
      obtain ⟨m, rfl⟩ := Int.eq_ofNat_of_zero_le hk.1
      match m, hk with
      | 0, _ => exact do_0 w base g t rv kv h hb r n hm1 hl
      | 1, _ => exact do_1 w base g t rv kv h hb r n hm1 hl (hbt (by simp))
      | 2, _ => exact do_2 w base g t rv kv h hb r n hm1 hl
      | 3, _ => exact do_3 w base g t rv kv h hb r n hm1 hl
      | 4, _ => exact do_4 w base g t rv kv h hb r n hm1 hl
      | 5, _ => exact do_5 w base g t rv kv h hb r n hm1 hl
      | 6, _ => exact do_6 w base g t rv kv h hb r n hm1 hl (hbt (by simp))
      | 7, _ => exact do_7 w base g t rv kv h hb r n hm1 hl
      | 8, _ => exact do_8 w base g t rv kv h hb r n hm1 hl
      | 9, _ => exact do_9 w base g t rv kv h hb r n hm1 hl (hbt (by simp))
      | 10, _ => exact do_10 w base g t rv kv h hb r n hm1 hl (hbt (by simp))
      | m + 11, hk => exact absurd hk.2 (by omega)
end Go.Proofs.Ytfgfnflhdabmcaa.Cfa
end
section
namespace Go.Proofs.Ytfgfnflhdabmcaa.G
open Go.RowKit Go.Proofs.YtfgfnflhdabmcaaW.PrintWords Go.Proofs.YtfgfnflhdabmcaaW.PrintLast Go.Proofs.YtfgfnflhdabmcaaW.PrintMore
attribute [local go_sem] max2_int min2_int max_two min_two max_three min_three max_four min_four   -- for this text's walks alone
set_option linter.unusedVariables false
set_option linter.unusedSimpArgs false
def cfa_bounds.j0 : Nat → Int → Bool → Option (Int)
 | 0, _, _ => none
 | k + 1, x1, x5 => if x5 = true then (some 11) else (if x1 > 4000 then (some 6) else (some 0))
def cfa_bounds.f (k : Nat) (a0 : Int) (a1 : Int) : Option (Int) := if a0 < 0 then (cfa_bounds.j0 k a1 true) else (cfa_bounds.j0 k a1 (decide (a0 > 1048576)))
set_option maxHeartbeats 8000000 in
set_option maxRecDepth 100000 in
theorem cfa_bounds.calls (k : Nat) (a0 : Int) (a1 : Int) (r : Int) (w : World) (h : cfa_bounds.f k a0 a1 = some r) :
  Calls Try.prog 82 #[.int .i64 a0, .int .i64 a1] w fun e w' => e = .returned (.int .i64 r) ∧ Drawn0 w w' := by
 have H : (if a0 < 0 then (cfa_bounds.j0 k a1 true) else (cfa_bounds.j0 k a1 (decide (a0 > 1048576)))) = some r := h
 clear h
 have HC3 := am H
 clear H
 go_enter Try.func82, Try.ntmps82
 go_upto_region 1 with (fail)
 go_cut [5] (fun v5 wc => ∃ (kq : Nat) (x5_2 : Bool), v5 = .bool x5_2 ∧ Aside0 (cfa_bounds.j0 kq a1 x5_2 = some r) ∧ Aside0 (kq ≤ k) ∧ Drawn0 w wc)
 case first =>
  have H := HC3.out
  clear HC3
  by_cases c4 : a0 < 0
  ·
   rw [if_pos c4] at H
   have c4b0 : decide (a0 < 0) = true := decide_eq_true c4
   clear c4
   (first | rw [c4b0] | (simp only [i64_w, i32_w]; rw [c4b0]) | skip)
   have H' := am H
   clear H
   go_wp2
   go_meet
   case rel => exact ⟨_, (true), (by first | rfl | (simp; done) | (simp [*]; done)), H', ⟨by first | omega | exact Nat.le_refl _⟩, by repeat (first | exact Drawn0.refl _ | apply Drawn0.step)⟩
  ·
   rw [if_neg c4] at H
   have c4b0 : decide (a0 < 0) = false := decide_eq_false c4
   clear c4
   (first | rw [c4b0] | (simp only [i64_w, i32_w]; rw [c4b0]) | skip)
   have H' := am H
   clear H
   go_wp2
   go_meet
   case rel => exact ⟨_, (decide (a0 > 1048576)), (by first | rfl | (simp; done) | (simp [*]; done)), H', ⟨by first | omega | exact Nat.le_refl _⟩, by repeat (first | exact Drawn0.refl _ | apply Drawn0.step)⟩
 case rest =>
  clear HC3
  try clear p2
  try clear c4
  try clear c4b0
  obtain ⟨kq, x5_2, rfl, HA, HJ2, ⟨mc2, rfl⟩⟩ := hcut
  cases kq with
  | zero => exact absurd HA.out (by simp [cfa_bounds.j0])
  | succ kj2 =>
   have H := HA.out
   clear HA
   simp only [cfa_bounds.j0] at H
   by_cases c5 : x5_2 = true
   ·
    subst c5
    have H1 : (some 11) = some r := by rw [if_pos rfl] at H; exact H
    clear H
    have H := H1
    clear H1
    obtain rfl := Option.some.inj H
    go_wp2
    go_ret
    exact ⟨by first | rfl | (simp; done) | (simp [*]; done), by repeat (first | exact Drawn0.refl _ | apply Drawn0.step)⟩
   ·
    replace c5 := Bool.eq_false_iff.mpr c5
    subst c5
    have H1 : (if a1 > 4000 then (some 6) else (some 0)) = some r := by rw [if_neg (show ¬ (false = true) by decide)] at H; exact H
    clear H
    have H := H1
    clear H1
    by_cases c6 : a1 > 4000
    ·
     rw [if_pos c6] at H
     have c6b0 : decide (4000 < a1) = true := decide_eq_true c6
     clear c6
     obtain rfl := Option.some.inj H
     go_wp2
     go_ret
     exact ⟨by first | rfl | (simp; done) | (simp [*]; done), by repeat (first | exact Drawn0.refl _ | apply Drawn0.step)⟩
    ·
     rw [if_neg c6] at H
     have c6b0 : decide (4000 < a1) = false := decide_eq_false c6
     clear c6
     obtain rfl := Option.some.inj H
     go_wp2
     go_ret
     exact ⟨by first | rfl | (simp; done) | (simp [*]; done), by repeat (first | exact Drawn0.refl _ | apply Drawn0.step)⟩
end Go.Proofs.Ytfgfnflhdabmcaa.G
end
section
namespace Go.Proofs.Ytfgfnflhdabmcaa.Cfa
set_option linter.unusedVariables false
set_option linter.unusedSimpArgs false
open Go.RowKit Go.Proofs.Ytfgfnflhdabmcaa.G Go.Proofs.YtfgfnflhdabmcaaW.PrintWords Go.Proofs.YtfgfnflhdabmcaaW.PrintLast Go.Proofs.YtfgfnflhdabmcaaW.PrintMore
set_option maxRecDepth 100000 in
theorem fresh_calls (size : Int) (hs : size ≤ 1048576) (w : World) : Calls Try.prog 83 #[.int .i64 size] w fun e w' => e = .returned (.pointer (some ⟨w.heap.size, 0, none⟩)) ∧ Below w.heap.size w w' ∧ Tab w' w.heap.size w.heap.size (fresh size) (.slice none 0 0) (.slice none 0 0) := by
  have HS := Aside0.mk hs
  clear hs
  go_enter Try.func83, Try.ntmps83
  go_wp2
  go_ret
  refine ⟨rfl, below_alloc (Below.refl _ _) _, good_fresh size HS.out, Nat.le_refl _, blk_new w _, Kd.R_nil _ _ _ _ _, Kd.R_nil _ _ _ _ _⟩
/-- Ops as plain triples. -/
def opl (l : List S105) : List (Int × Int × Int) := l.map fun o => (o.f0, o.f1, o.f2)
theorem opl_drop (l : List S105) (n : Nat) (hn : n < l.length) : (opl l).drop n = ((rd_T105 l n).f0, (rd_T105 l n).f1, (rd_T105 l n).f2) :: (opl l).drop (n + 1) := by
  have : rd_T105 l (n : Int) = l[n] := by simp [rd_T105, List.getD, hn]
  rw [this, opl, List.drop_eq_getElem_cons (by simpa using hn), List.getElem_map]
theorem opl_length (l : List S105) : (opl l).length = l.length := by simp [opl]
/-- How far a table has come from another in n ops. -/
structure Far (t t' : T) (n : Nat) : Prop where
  rows : t'.rows.length ≤ t.rows.length + n
  kept : t'.kept.length ≤ t.kept.length + n
  size : t'.size = t.size
  begun : t'.begun = t.begun
  first : t'.first = t.first
theorem Far.zero (t : T) : Far t t 0 := ⟨Nat.le_refl _, Nat.le_refl _, rfl, rfl, rfl⟩
theorem Far.step {t t' t2 : T} {n : Nat} {k r m : Int} (h : Far t t' n) (e : does t' k r m = some t2) : Far t t2 (n + 1) := by
  obtain ⟨h1, h2, h3, h4, h5⟩ := does_size e
  exact ⟨by have := h.rows; omega, by have := h.kept; omega, h1.trans h.size, h2.trans h.begun, h3.trans h.first⟩
set_option maxRecDepth 100000 in
theorem begin_calls (w : World) (base g : Nat) (t : T) (rv kv : Value) (h : Tab w base g t rv kv) (hb : base ≤ w.heap.size) (A0 : Option Addr) (c0 : Nat) (l0 : List S105) (hr0 : ∀ W, Below base w W → Kd.C k105 W A0 l0.length l0) (hl0 : l0.length ≤ 100000) (hl : t.rows.length ≤ 100000 ∧ t.kept.length ≤ 100000 ∧ 0 ≤ t.size) :
    Calls Try.prog 84 #[.pointer (some ⟨g, 0, none⟩), .slice A0 l0.length c0] w (Post base g w (begin_ t (opl l0))) := by
  have H := Aside0.mk h
  have HB := Aside0.mk hb
  have HL := Aside0.mk hl
  have HR0 := Aside0.mk hr0
  have HBW := Aside0.mk (Below.refl base w)
  clear h hb hl hr0
  go_enter Try.func84, Try.ntmps84
  go_wp2
  go_loopg [9] l0.length (fun kq i w' => ∃ (n : Nat) (t' : T) (rv kv : Value), n + kq = l0.length ∧ i = .int .i64 (n : Int) ∧ Aside0 (doAll t (opl l0) = doAll t' ((opl l0).drop n)) ∧ Aside0 (Tab w' base g t' rv kv) ∧ Aside0 (Below base w w') ∧ Aside0 (Far t t' n))
  case atStart => exact ⟨0, t, rv, kv, by omega, rfl, ⟨rfl⟩, H, HBW, ⟨Far.zero t⟩⟩
  case round =>
    clear HBW H
    obtain ⟨n, t', rv', kv', hn, rfl, HD, H, HBW, HF⟩ := hrel
    cases gk with
    | zero =>
      have hltb : decide ((n : Int) < (l0.length : Int)) = false := by simp; omega
      have hd := HD.out
      rw [List.drop_of_length_le (by rw [opl_length]; omega)] at hd
      have hfin : begin_ t (opl l0) = if 0 ≤ t'.now.getD 1 0 then some { t' with first := t'.now, begun := true } else none := by
        unfold begin_
        rw [hd]
        rfl
      have h := H.out
      have hn37 := h.good.now
      have g1 := set_firstAll h.blk h.good t'.now hn37
      have hg1 : Good { t' with first := t'.now } := ⟨h.good.now, h.good.now, h.good.rows, h.good.kept, h.good.at0, h.good.size, h.good.atS⟩
      have hg2 : Good { t' with first := t'.now, begun := true } := ⟨h.good.now, h.good.now, h.good.rows, h.good.kept, h.good.at0, h.good.size, h.good.atS⟩
      have g2 := set_begun g1 hg1 true
      have hgr : wr.grownBy ((wr.setCells g 38 (nums .i64 t'.now)).setCell ⟨g, 77, none⟩ (.bool true)) (some g) := grown_set' (grown_setCells _ _ _ _) _ _
      have hTT : Tab ((wr.setCells g 38 (nums .i64 t'.now)).setCell ⟨g, 77, none⟩ (.bool true)) base g { t' with first := t'.now, begun := true } rv' kv' := h.turn hgr hg2 g2 rfl rfl
      have e1 : (wr.setCells g 38 (nums .i64 t'.now)).cell? ⟨g, 77, none⟩ = some (.bool t'.begun) := by rw [blk_cell g1, List.getElem?_toArray]; exact cells_tail hg1 2
      have e2 : (wr.setCells g 38 (nums .i64 t'.now)).frozen? ⟨g, 77, none⟩ = false := blk_frozen g1 77
      have e3 : (wr.setCells g 38 (nums .i64 t'.now)).cell? ⟨g, 2, none⟩ = some (.int .i64 (t'.now.getD 1 0)) := by rw [blk_cell g1, List.getElem?_toArray]; exact cells_now hg1 1 (by omega)
      have HN := Aside0.mk h.nowR
      have HN37 := Aside0.mk hn37
      have HTH := Aside0.mk (there_of_blk (o := 38) (n := 37) h.blk (by rw [List.size_toArray, cells_len h.good]; decide))
      have HFIN := Aside0.mk hfin
      have HTT := Aside0.mk hTT
      have HBB := Aside0.mk (HBW.out.trans (below_grown hgr (by have := HB.out; have := HBW.out.size; omega) h.lo))
      obtain ⟨x, hx⟩ : ∃ x, t'.now.getD 1 0 = x := ⟨_, rfl⟩
      rw [hx] at e3
      have HX := Aside0.mk hx
      clear hd hfin h hn37 g1 hg1 hg2 g2 hgr hTT hx HD HF
      go_wp2_with (first
        | (refine load_rowW rowTy rfl (.tmp 22) rfl g 1 rfl t'.now HN37.out HN.out ?_)
        | (refine store_rowW rowTy rfl (.tmp 25) (.tmp 23) rfl g 38 t'.now HN37.out rfl rfl HTH.out ?_))
      go_ret
      have e := HFIN.out
      rw [HX.out] at e
      rw [e]
      by_cases c : 0 ≤ x
      · rw [if_pos c, decide_eq_true (show x ≥ 0 from c)]
        refine ⟨rfl, HBB.out, fun t2 e => ?_⟩
        cases e
        exact ⟨_, _, HTT.out⟩
      · rw [if_neg c, decide_eq_false (show ¬ x ≥ 0 from c)]
        exact ⟨rfl, HBB.out, fun t2 e => by cases e⟩
    | succ gk =>
      have hltb : decide ((n : Int) < (l0.length : Int)) = true := by simp; omega
      obtain ⟨ad, rfl, hx0, hx1, hx2⟩ := at_T105 (HR0.out _ HBW.out) (n : Int) (by omega) (by omega)
      rw [Int.toNat_natCast] at hx0 hx1 hx2
      have hd := opl_drop l0 n (by omega)
      generalize rd_T105 l0 (n : Int) = x at *
      have HDR := Aside0.mk hd
      clear hd
      go_wp2_with fail
      refine (do_calls _ base g t' rv' kv' (H.out.below (below_alloc (Below.refl _ _) _)) (by have := HB.out; have := HBW.out.size; simp; omega) x.f0 x.f1 x.f2 (by have := HF.out; have := this.rows; have := HF.out.kept; have := HL.out; have := HF.out.size; omega)).mono ?_
      rintro e w2 ⟨rfl, hb2, hp⟩
      have hB2 : Below base w w2 := (HBW.out.trans ((below_alloc (Below.refl _ _) _).mono (by have := HB.out; have := HBW.out.size; omega))).trans hb2
      have he : doAll t' ((opl l0).drop n) = (does t' x.f0 x.f1 x.f2).bind fun t'' => doAll t'' ((opl l0).drop (n + 1)) := by rw [HDR.out]; rfl
      cases hd : does t' x.f0 x.f1 x.f2 with
      | none =>
        rw [hd] at he
        have HE := Aside0.mk (HD.out.trans he)
        have HB2 := Aside0.mk hB2
        clear he hd hb2 hp hB2
        simp only [Option.isSome_none]
        go_wp2
        go_ret
        have e : begin_ t (opl l0) = none := by unfold begin_; rw [HE.out]; rfl
        rw [e]
        exact ⟨rfl, HB2.out, fun _ e => by cases e⟩
      | some t2 =>
        rw [hd] at he
        obtain ⟨rv2, kv2, hT2⟩ := hp t2 hd
        have HE := Aside0.mk (HD.out.trans he)
        have HB2 := Aside0.mk hB2
        have HT2 := Aside0.mk hT2
        have HF2 := Aside0.mk (HF.out.step hd)
        clear he hd hb2 hp hB2 hT2
        simp only [Option.isSome_some]
        go_wp2
        go_roundg gk
        case measure => omega
        case rel => exact ⟨n + 1, t2, rv2, kv2, by omega, by go_num, HE, HT2, HB2, HF2⟩
end Go.Proofs.Ytfgfnflhdabmcaa.Cfa
end
section
namespace Go.Proofs.Ytfgfnflhdabmcaa.Cfa
set_option linter.unusedVariables false
set_option linter.unusedSimpArgs false
open Go.RowKit Go.Proofs.Ytfgfnflhdabmcaa.G Go.Proofs.YtfgfnflhdabmcaaW.PrintWords Go.Proofs.YtfgfnflhdabmcaaW.PrintLast Go.Proofs.YtfgfnflhdabmcaaW.PrintMore
attribute [local go_sem] max2_int min2_int max_two min_two max_three min_three max_four min_four
/-- Rows by value hand-back: what Rows answers. -/
def RowsPost (w : World) (r : List Row × Int) (e : Ending) (w' : World) : Prop :=
  ∃ v, e = .returned (.tuple #[v, .int .i64 r.2]) ∧ Kd.R rowK 145 w' w.heap.size (fun _ => True) v r.1 ∧ Below w.heap.size w w'
theorem bounds_f (size m : Int) : cfa_bounds.f 1 size m = some (if size < 0 ∨ 1048576 < size then 11 else if 4000 < m then 6 else 0) := by
  unfold cfa_bounds.f
  by_cases c : size < 0
  · rw [if_pos c, if_pos (.inl c)]
    simp only [cfa_bounds.j0, if_true]
  · rw [if_neg c]
    by_cases c2 : 1048576 < size
    · rw [if_pos (.inr c2), decide_eq_true (show size > 1048576 from c2)]
      simp only [cfa_bounds.j0, if_true]
    · rw [if_neg (by omega), decide_eq_false (show ¬ size > 1048576 from c2)]
      simp only [cfa_bounds.j0]
      rw [if_neg (by decide)]
      by_cases c3 : 4000 < m
      · rw [if_pos c3, if_pos c3]
      · rw [if_neg c3, if_neg c3]
set_option maxRecDepth 100000 in
theorem rows_refused (A0 : Option Addr) (c0 : Nat) (l0 : List S105) (A1 : Option Addr) (c1 : Nat) (l1 : List S105) (size : Int) (w : World) (m : Int) (hmx : (if l0.length < l1.length then (l1.length : Int) else (l0.length : Int)) = m) (er : Int) (her : (if size < 0 ∨ 1048576 < size then (11 : Int) else if 4000 < m then 6 else 0) = er) (hne : er ≠ 0) :
    Calls Try.prog 64 #[.slice A0 l0.length c0, .slice A1 l1.length c1, .int .i64 size] w (RowsPost w ([], er)) := by
  have hb := bounds_f size m
  rw [her] at hb
  have HBD := Aside0.mk hb
  obtain ⟨d1, d2⟩ := may_ne hne
  clear hb her hne
  go_enter Try.func64, Try.ntmps64
  go_wp2
  go_step3
  go_wp2_with fail
  refine (cfa_bounds.calls 1 size m er _ HBD.out).mono ?_
  rintro e w1 ⟨rfl, hb1⟩
  go_wp2
  try rw [Exit.noGoto_ret]
  go_ret2
  exact ⟨_, rfl, Kd.R_nil _ _ _ _ _, hb1.below⟩
set_option maxRecDepth 100000 in
theorem rows_nobegin (A0 : Option Addr) (c0 : Nat) (l0 : List S105) (A1 : Option Addr) (c1 : Nat) (l1 : List S105) (size : Int) (w : World) (hr0 : Kd.C k105 w A0 l0.length l0) (hr1 : Kd.C k105 w A1 l1.length l1) (m : Int) (hmx : (if l0.length < l1.length then (l1.length : Int) else (l0.length : Int)) = m) (hs0 : 0 ≤ size) (hs1 : size ≤ 1048576) (hm : m ≤ 4000) (hl0 : l0.length ≤ 4000) (hl1 : l1.length ≤ 4000) (hbg : begin_ (fresh size) (opl l0) = none) :
    Calls Try.prog 64 #[.slice A0 l0.length c0, .slice A1 l1.length c1, .int .i64 size] w (RowsPost w ([], 130)) := by
  have hb := bounds_f size m
  rw [if_neg (by omega), if_neg (by omega)] at hb
  have HBD := Aside0.mk hb
  have HR0 := Aside0.mk hr0
  have HR1 := Aside0.mk hr1
  have HBG := Aside0.mk hbg
  have HS0 := Aside0.mk hs0
  have HS1 := Aside0.mk hs1
  clear hb hr0 hr1 hbg hs0 hs1 hm
  go_enter Try.func64, Try.ntmps64
  go_wp2
  go_step3
  go_wp2_with fail
  refine (cfa_bounds.calls 1 size m 0 _ HBD.out).mono ?_
  rintro e w1 ⟨rfl, hb1⟩
  have HB1 := Aside0.mk hb1.below
  clear hb1
  go_wp2_with fail
  refine (fresh_calls size HS1.out _).mono ?_
  rintro e w2 ⟨rfl, hb2, hT⟩
  have HB2 := Aside0.mk (below_step HB1.out hb2)
  have HT := Aside0.mk hT
  have hle : w.heap.size ≤ w1.heap.size := HB1.out.size
  have HLE := Aside0.mk hle
  have HBB := Aside0.mk hb2
  clear hb2 hT hle
  generalize w1.heap.size = g at *
  go_wp2_with fail
  refine (begin_calls _ w.heap.size g (fresh size) _ _ ⟨HT.out.good, HLE.out, HT.out.blk, Kd.R_nil _ _ _ _ _, Kd.R_nil _ _ _ _ _⟩ HB2.out.size A0 c0 l0 (fun W hW => Kd.C_below HR0.out (HB2.out.trans hW)) (by omega) ⟨by show 0 ≤ _; omega, by show 0 ≤ _; omega, HS0.out⟩).mono ?_
  rw [HBG.out]
  rintro e w3 ⟨rfl, hb3, -⟩
  have HB3 := Aside0.mk (HB2.out.trans hb3)
  clear hb3
  simp only [Option.isSome_none]
  go_wp2
  go_step3
  go_wp2
  go_loopg [10, 30] l1.length (fun kq v10 i w' => v10 = .bool false ∧ i = .int .i64 0 ∧ kq = l1.length ∧ Aside0 (Below w.heap.size w w'))
  case atStart => exact ⟨rfl, rfl, rfl, HB3⟩
  case round =>
    clear HB3
    obtain ⟨rfl, rfl, hk, HB3⟩ := hrel
    rcases Nat.eq_zero_or_pos l1.length with h0 | h0
    · have hltb : decide ((0 : Int) < (l1.length : Int)) = false := decide_eq_false (by omega)
      go_wp2
      rw [Exit.noGoto_ret]
      go_ret2
      exact ⟨_, rfl, Kd.R_nil _ _ _ _ _, HB3.out⟩
    · have hltb : decide ((0 : Int) < (l1.length : Int)) = true := decide_eq_true (by omega)
      obtain ⟨ad, rfl, hx0, hx1, hx2⟩ := at_T105 (Kd.C_below HR1.out HB3.out) (0 : Int) (by omega) (by omega)
      simp only [Int.toNat_zero, Nat.zero_mul] at hx0 hx1 hx2
      have hz : ad.add 0 = ad := by simp [Addr.add]
      rw [hz] at hx0 hx1 hx2
      generalize rd_T105 l1 (0 : Int) = x at *
      go_wp2
      rw [Exit.noGoto_ret]
      go_ret2
      exact ⟨_, rfl, Kd.R_nil _ _ _ _ _, below_alloc HB3.out _⟩
theorem doAll_far {t t' : T} : ∀ (l : List (Int × Int × Int)) (n : Nat) (t0 : T), Far t0 t n → doAll t l = some t' → Far t0 t' (n + l.length)
  | [], n, t0, h, e => by cases e; exact h
  | o :: l, n, t0, h, e => by
    unfold doAll at e
    cases hd : does t o.1 o.2.1 o.2.2 with
    | none => rw [hd] at e; cases e
    | some t2 =>
      rw [hd] at e
      have := doAll_far l (n + 1) t0 (h.step hd) e
      rw [List.length_cons, show n + (l.length + 1) = n + 1 + l.length from by omega]
      exact this
theorem begin_far {t t' : T} {l : List (Int × Int × Int)} (e : begin_ t l = some t') : t'.rows.length ≤ t.rows.length + l.length ∧ t'.kept.length ≤ t.kept.length + l.length ∧ t'.size = t.size := by
  unfold begin_ at e
  cases hd : doAll t l with
  | none => rw [hd] at e; cases e
  | some t2 =>
    rw [hd] at e
    have := doAll_far l 0 t (Far.zero t) hd
    rcases ite_cases e with ⟨_, e⟩ | ⟨_, e⟩
    · cases e
      exact ⟨by show t2.rows.length ≤ _; have := this.rows; omega, by show t2.kept.length ≤ _; have := this.kept; omega, this.size⟩
    · cases e
set_option maxHeartbeats 1000000 in
set_option maxRecDepth 100000 in
theorem rows_main (A0 : Option Addr) (c0 : Nat) (l0 : List S105) (A1 : Option Addr) (c1 : Nat) (l1 : List S105) (size : Int) (w : World) (hr0 : Kd.C k105 w A0 l0.length l0) (hr1 : Kd.C k105 w A1 l1.length l1) (m : Int) (hmx : (if l0.length < l1.length then (l1.length : Int) else (l0.length : Int)) = m) (hs0 : 0 ≤ size) (hs1 : size ≤ 1048576) (hm : m ≤ 4000) (hl0 : l0.length ≤ 4000) (hl1 : l1.length ≤ 4000) (t1 : T) (hbg : begin_ (fresh size) (opl l0) = some t1) :
    Calls Try.prog 64 #[.slice A0 l0.length c0, .slice A1 l1.length c1, .int .i64 size] w (RowsPost w (match doAll t1 (opl l1) with | none => ([], 130) | some t => (t.rows ++ [t.now], 0))) := by
  have hb := bounds_f size m
  rw [if_neg (by omega), if_neg (by omega)] at hb
  have HBD := Aside0.mk hb
  have HR0 := Aside0.mk hr0
  have HR1 := Aside0.mk hr1
  have hbf := begin_far hbg
  rw [opl_length] at hbf
  have HBF := Aside0.mk (show t1.rows.length ≤ 4000 ∧ t1.kept.length ≤ 4000 ∧ 0 ≤ t1.size from ⟨by have : (fresh size).rows.length = 0 := rfl; omega, by have : (fresh size).kept.length = 0 := rfl; omega, by have : (fresh size).size = size := rfl; omega⟩)
  have HBG := Aside0.mk hbg
  have HS0 := Aside0.mk hs0
  have HS1 := Aside0.mk hs1
  obtain ⟨R, hR⟩ : ∃ R, (match doAll t1 (opl l1) with | none => (([] : List Row), (130 : Int)) | some t => (t.rows ++ [t.now], 0)) = R := ⟨_, rfl⟩
  rw [hR]
  have HR := Aside0.mk hR
  clear hb hr0 hr1 hbg hs0 hs1 hm hR hbf
  go_enter Try.func64, Try.ntmps64
  go_wp2
  go_step3
  go_wp2_with fail
  refine (cfa_bounds.calls 1 size m 0 _ HBD.out).mono ?_
  rintro e w1 ⟨rfl, hb1⟩
  have HB1 := Aside0.mk hb1.below
  clear hb1
  go_wp2_with fail
  refine (fresh_calls size HS1.out _).mono ?_
  rintro e w2 ⟨rfl, hb2, hT⟩
  have HB2 := Aside0.mk (below_step HB1.out hb2)
  have HT := Aside0.mk hT
  have hle : w.heap.size ≤ w1.heap.size := HB1.out.size
  have HLE := Aside0.mk hle
  clear hb2 hT hle
  generalize w1.heap.size = g at *
  go_wp2_with fail
  refine (begin_calls _ w.heap.size g (fresh size) _ _ ⟨HT.out.good, HLE.out, HT.out.blk, Kd.R_nil _ _ _ _ _, Kd.R_nil _ _ _ _ _⟩ HB2.out.size A0 c0 l0 (fun W hW => Kd.C_below HR0.out (HB2.out.trans hW)) (by omega) ⟨by show 0 ≤ _; omega, by show 0 ≤ _; omega, HS0.out⟩).mono ?_
  rw [HBG.out]
  rintro e w3 ⟨rfl, hb3, hp⟩
  obtain ⟨rv, kv, hT3⟩ := hp t1 rfl
  have HT3 := Aside0.mk hT3
  have HB3 := Aside0.mk (HB2.out.trans hb3)
  clear hb3 hp hT3 HT HB2 HB1
  simp only [Option.isSome_some]
  go_wp2
  go_step3
  go_wp2
  go_loopg [10, 30] l1.length (fun kq v10 i w' => v10 = .bool true ∧ ∃ (n : Nat) (t' : T) (rv kv : Value), n + kq = l1.length ∧ i = .int .i64 (n : Int) ∧ Aside0 (doAll t1 (opl l1) = doAll t' ((opl l1).drop n)) ∧ Aside0 (Tab w' w.heap.size g t' rv kv) ∧ Aside0 (Below w.heap.size w w') ∧ Aside0 (Far t1 t' n))
  case atStart => exact ⟨rfl, 0, t1, rv, kv, by omega, rfl, ⟨rfl⟩, HT3, HB3, ⟨Far.zero t1⟩⟩
  case round =>
    clear HB3 HT3
    obtain ⟨rfl, n, t', rv', kv', hn, rfl, HD, HT, HB, HF⟩ := hrel
    cases gk with
    | zero =>
      have hltb : decide ((n : Int) < (l1.length : Int)) = false := decide_eq_false (by omega)
      have hd := HD.out
      rw [List.drop_of_length_le (by rw [opl_length]; omega)] at hd
      have hres := HR.out
      rw [hd] at hres
      have hres2 : (t'.rows ++ [t'.now], (0 : Int)) = R := hres
      subst hres2
      have f1 := HT.out.rowsC
      have HN := Aside0.mk HT.out.nowR
      clear hd hres HR HD
      go_wp2
      refine start_ (n := 12) (S := fun u => u.cell? ⟨g, 0, none⟩ = some rv' ∧ Aside0 (u.rangeAt g 1 (nums .i64 t'.now))) (ds := [9]) #[false, false, false, false, false, false, false, false, false, false, false, false] (by kernel_rfl) rfl rfl ?_ (fun hHeld => ?_)
      case refine_1 => exact ⟨by go_simp, ⟨(World.rangeAt_drew _ _ _ _).2 HN.out⟩⟩
      refine pure_ (i := 0) (N := some 45) (v := ?_) (a' := ?_) #[true, false, false, false, false, false, false, false, false, false, false, false] rfl rfl (by kernel_rfl) (fun _ _ _ h => h) (Or.inl ⟨by rfl, ?_⟩) ?_ ?_
      rotate_left
      · intro u
        go_simp
        with_reducible rfl
      rotate_left
      · simp only [Act.put, List.setIfInBounds_toArray, List.set_cons_zero, List.set_cons_succ, i64_w, i32_w]
        rfl
      refine pure_ (i := 1) (N := some 46) (v := ?_) (a' := ?_) #[true, true, false, false, false, false, false, false, false, false, false, false] rfl rfl (by kernel_rfl) (fun _ _ _ h => h) (Or.inl ⟨by rfl, ?_⟩) ?_ ?_
      rotate_left
      · intro u
        go_simp
        with_reducible rfl
      rotate_left
      · simp only [Act.put, List.setIfInBounds_toArray, List.set_cons_zero, List.set_cons_succ, i64_w, i32_w]
        rfl
      refine pure_ (i := 2) (N := some 47) (v := ?_) (a' := ?_) #[true, true, true, false, false, false, false, false, false, false, false, false] rfl rfl (by kernel_rfl) (fun _ _ _ h => h) (Or.inl ⟨by rfl, ?_⟩) ?_ ?_
      rotate_left
      · intro u
        go_simp
        with_reducible rfl
      rotate_left
      · simp only [Act.put, List.setIfInBounds_toArray, List.set_cons_zero, List.set_cons_succ, i64_w, i32_w]
        rfl
      refine take_ (i := 3) (N := some 48) (v := ?_) (a' := ?_) #[true, true, true, true, false, false, false, false, false, false, false, false] rfl rfl (by kernel_rfl) (fun _ _ _ h => h) (Or.inl ⟨by rfl, ?_⟩) hHeld ?_ ?_
      rotate_left
      · rintro u ⟨s0, s1⟩
        go_simp
        with_reducible rfl
      rotate_left
      · simp only [Act.put, List.setIfInBounds_toArray, List.set_cons_zero, List.set_cons_succ, i64_w, i32_w]
        rfl
      refine pure_ (i := 4) (N := some 49) (v := ?_) (a' := ?_) #[true, true, true, true, true, false, false, false, false, false, false, false] rfl rfl (by kernel_rfl) (fun _ _ _ h => h) (Or.inl ⟨by rfl, ?_⟩) ?_ ?_
      rotate_left
      · intro u
        go_simp
        with_reducible rfl
      rotate_left
      · simp only [Act.put, List.setIfInBounds_toArray, List.set_cons_zero, List.set_cons_succ, i64_w, i32_w]
        rfl
      refine pure_ (i := 5) (N := some 50) (v := ?_) (a' := ?_) #[true, true, true, true, true, true, false, false, false, false, false, false] rfl rfl (by kernel_rfl) (fun _ _ _ h => h) (Or.inl ⟨by rfl, ?_⟩) ?_ ?_
      rotate_left
      · intro u
        go_simp
        with_reducible rfl
      rotate_left
      · simp only [Act.put, List.setIfInBounds_toArray, List.set_cons_zero, List.set_cons_succ, i64_w, i32_w]
        rfl
      refine pure_ (i := 6) (N := some 51) (v := ?_) (a' := ?_) #[true, true, true, true, true, true, true, false, false, false, false, false] rfl rfl (by kernel_rfl) (fun _ _ _ h => h) (Or.inl ⟨by rfl, ?_⟩) ?_ ?_
      rotate_left
      · intro u
        go_simp
        with_reducible rfl
      rotate_left
      · simp only [Act.put, List.setIfInBounds_toArray, List.set_cons_zero, List.set_cons_succ, i64_w, i32_w]
        rfl
      refine take_ (i := 7) (N := some 52) (v := .agg (nums .i64 t'.now).toArray) (a' := ?_) #[true, true, true, true, true, true, true, true, false, false, false, false] rfl rfl (by kernel_rfl) (fun _ _ _ h => h) (load_row_y (by rfl) (.tmp 51) rfl g 1 rfl t'.now HT.out.good.now (fun u hu => hu.2.out)) hHeld ?_ ?_
      rotate_left
      · simp only [Act.put, List.setIfInBounds_toArray, List.set_cons_zero, List.set_cons_succ, i64_w, i32_w]
        rfl
      refine one_ (i := 8) (N := some 53) #[true, true, true, true, true, true, true, true, true, false, false, false] rfl rfl (by kernel_rfl) (by decide) (fun K hK => ?_)
      rw [if_pos (by rfl)]
      refine wp_build_row (.tmp 52) rfl t'.now HT.out.good.now rfl ?_
      have hgl := blk_lt HT.out.blk
      refine hK.out _ _ ⟨by go_simp, ⟨World.rangeAt_alloc ((World.rangeAt_drew _ _ _ _).2 HN.out) _⟩⟩ (fun hHeld => ?_)
      clear hK K hgl
      refine norm_ (a' := ?_) ?_ ?_
      rotate_left
      · show Act.put _ (some 53) _ = _
        simp only [Act.put, List.setIfInBounds_toArray, List.set_cons_zero, List.set_cons_succ, i64_w, i32_w]
        rfl
      refine last_ (i := 9) (N := some 54) #[true, true, true, true, true, true, true, true, true, true, false, false] rfl rfl (by kernel_rfl) (by decide) (fun K hK => ?_)
      refine Kd.R_append_step rowK (w0 := w) w.heap.size (by rfl) (.tmp 48) (.tmp 53) 111 145 _ 296 rfl Try.underlying111 info145 rfl (by decide) (by decide) rv' t'.rows t'.now (nums .i64 t'.now) (fun k => True) (fun _ => False) rfl rfl (row_M _ _ _ _ HT.out.good.now) (fun _ h => h.elim) (fun _ _ => trivial) ?aO ?aB ?aS ?aL ?_
      case aO => exact Kd.R_mono (Kd.R_below HT.out.rows (below_drew (Below.refl _ _))) (fun _ _ => trivial)
      case aB => exact below_drew HB.out
      case aS => exact HB.out.size
      case aL => have := HBF.out.1; have := HF.out.rows; omega
      intro v1 w4 ho hbb hgr hat
      have HO := Aside0.mk ho
      have HBB := Aside0.mk hbb
      clear ho hbb hgr hat
      refine hK.out _ _ ?_
      clear hK K
      refine norm_ (a' := ?_) ?_ ?_
      rotate_left
      · show Act.put _ (some 54) _ = _
        simp only [Act.put, List.setIfInBounds_toArray, List.set_cons_zero, List.set_cons_succ, i64_w, i32_w]
        rfl
      refine pure_ (i := 10) (N := some 6) (v := ?_) (a' := ?_) #[true, true, true, true, true, true, true, true, true, true, true, false] rfl rfl (by kernel_rfl) (fun _ _ _ h => h) (Or.inl ⟨by rfl, ?_⟩) ?_ ?_
      rotate_left
      · intro u
        go_simp
        with_reducible rfl
      rotate_left
      · simp only [Act.put, List.setIfInBounds_toArray, List.set_cons_zero, List.set_cons_succ, i64_w, i32_w]
        rfl
      refine pure_ (i := 11) (N := some 7) (v := ?_) (a' := ?_) #[true, true, true, true, true, true, true, true, true, true, true, true] rfl rfl (by kernel_rfl) (fun _ _ _ h => h) (Or.inl ⟨by rfl, ?_⟩) ?_ ?_
      rotate_left
      · intro u
        go_simp
        with_reducible rfl
      rotate_left
      · simp only [Act.put, List.setIfInBounds_toArray, List.set_cons_zero, List.set_cons_succ, i64_w, i32_w]
        rfl
      refine done_ (by kernel_rfl) ?_
      go_wp2
      rw [Exit.noGoto_ret]
      go_ret2
      exact ⟨_, rfl, HO.out, HBB.out⟩
    | succ gk =>
      have hltb : decide ((n : Int) < (l1.length : Int)) = true := decide_eq_true (by omega)
      obtain ⟨ad, rfl, hx0, hx1, hx2⟩ := at_T105 (Kd.C_below HR1.out HB.out) (n : Int) (by omega) (by omega)
      rw [Int.toNat_natCast] at hx0 hx1 hx2
      have hd := opl_drop l1 n (by omega)
      generalize rd_T105 l1 (n : Int) = x at *
      have HDR := Aside0.mk hd
      clear hd
      go_wp2_with fail
      refine (do_calls _ w.heap.size g t' rv' kv' (HT.out.below (below_alloc (Below.refl _ _) _)) (by have := HB.out.size; simp; omega) x.f0 x.f1 x.f2 (by have := HF.out.rows; have := HF.out.kept; have := HBF.out; have := HF.out.size; omega)).mono ?_
      rintro e w5 ⟨rfl, hb2, hp⟩
      have hB2 : Below w.heap.size w w5 := (below_alloc HB.out _).trans hb2
      have he : doAll t' ((opl l1).drop n) = (does t' x.f0 x.f1 x.f2).bind fun t'' => doAll t'' ((opl l1).drop (n + 1)) := by rw [HDR.out]; rfl
      cases hd : does t' x.f0 x.f1 x.f2 with
      | none =>
        rw [hd] at he
        have HE := Aside0.mk (HD.out.trans he)
        have HB2 := Aside0.mk hB2
        clear he hd hb2 hp hB2
        simp only [Option.isSome_none]
        go_wp2
        rw [Exit.noGoto_ret]
        go_ret2
        have hres := HR.out
        rw [HE.out] at hres
        have hres2 : ([], (130 : Int)) = R := hres
        subst hres2
        exact ⟨_, rfl, Kd.R_nil _ _ _ _ _, HB2.out⟩
      | some t2 =>
        rw [hd] at he
        obtain ⟨rv2, kv2, hT2⟩ := hp t2 hd
        have HE := Aside0.mk (HD.out.trans he)
        have HB2 := Aside0.mk hB2
        have HT2 := Aside0.mk hT2
        have HF2 := Aside0.mk (HF.out.step hd)
        clear he hd hb2 hp hB2 hT2
        simp only [Option.isSome_some]
        go_wp2
        go_roundg gk
        case measure => omega
        case rel => exact ⟨rfl, n + 1, t2, rv2, kv2, by omega, by go_num, HE, HT2, HB2, HF2⟩
theorem rows_calls (A0 : Option Addr) (c0 : Nat) (l0 : List S105) (A1 : Option Addr) (c1 : Nat) (l1 : List S105) (size : Int) (w : World) (hr0 : Kd.C k105 w A0 l0.length l0) (hr1 : Kd.C k105 w A1 l1.length l1) :
    Calls Try.prog 64 #[.slice A0 l0.length c0, .slice A1 l1.length c1, .int .i64 size] w (RowsPost w (rowsOf (opl l0) (opl l1) size)) := by
  obtain ⟨m, hm⟩ : ∃ m, (if l0.length < l1.length then (l1.length : Int) else (l0.length : Int)) = m := ⟨_, rfl⟩
  have hm1 : (l0.length : Int) ≤ m ∧ (l1.length : Int) ≤ m ∧ (m = l0.length ∨ m = l1.length) := by rw [← hm]; split <;> omega
  unfold rowsOf
  rw [opl_length, opl_length]
  by_cases c1' : size < 0 ∨ 1048576 < size
  · rw [if_pos c1']
    exact rows_refused A0 c0 l0 A1 c1 l1 size w m hm 11 (if_pos c1') (by decide)
  rw [if_neg c1']
  by_cases c2 : 4000 < l0.length ∨ 4000 < l1.length
  · rw [if_pos c2]
    exact rows_refused A0 c0 l0 A1 c1 l1 size w m hm 6 (by rw [if_neg c1', if_pos (by omega)]) (by decide)
  rw [if_neg c2]
  unfold run
  cases hb : begin_ (fresh size) (opl l0) with
  | none => exact rows_nobegin A0 c0 l0 A1 c1 l1 size w hr0 hr1 m hm (by omega) (by omega) (by omega) (by omega) (by omega) hb
  | some t1 => exact rows_main A0 c0 l0 A1 c1 l1 size w hr0 hr1 m hm (by omega) (by omega) (by omega) (by omega) (by omega) t1 hb
end Go.Proofs.Ytfgfnflhdabmcaa.Cfa
end
section
namespace Go.Proofs.Ytfgfnflhdabmcaa.Cfa
set_option linter.unusedVariables false
set_option linter.unusedSimpArgs false
open Go.RowKit Go.Proofs.Ytfgfnflhdabmcaa.G Go.Proofs.YtfgfnflhdabmcaaW.PrintWords Go.Proofs.YtfgfnflhdabmcaaW.PrintLast Go.Proofs.YtfgfnflhdabmcaaW.PrintMore
set_option maxRecDepth 100000 in
theorem check_calls (A0 : Option Addr) (c0 : Nat) (l0 : List S105) (A1 : Option Addr) (c1 : Nat) (l1 : List S105) (size : Int) (w : World) (hr0 : Kd.C k105 w A0 l0.length l0) (hr1 : Kd.C k105 w A1 l1.length l1) (R : List Row × Int) (hR : rowsOf (opl l0) (opl l1) size = R) :
    Calls Try.prog 31 #[.slice A0 l0.length c0, .slice A1 l1.length c1, .int .i64 size] w fun e w' => e = .returned (.int .i64 R.2) ∧ Below w.heap.size w w' := by
  have hc := Cfa.rows_calls A0 c0 l0 A1 c1 l1 size w hr0 hr1
  rw [hR] at hc
  have HC := Aside0.mk hc
  clear hc hR hr0 hr1
  go_enter Try.func31, Try.ntmps31
  go_wp2_with fail
  refine HC.out.mono ?_
  rintro e w1 ⟨v, rfl, hv, hw1⟩
  clear hv HC
  simp only []
  go_wp2
  go_ret
  exact ⟨rfl, hw1⟩
end Go.Proofs.Ytfgfnflhdabmcaa.Cfa
end
section
namespace Go.Proofs.Ytfgfnflhdabmcaa.G
open Go.RowKit Go.Proofs.YtfgfnflhdabmcaaW.PrintWords Go.Proofs.YtfgfnflhdabmcaaW.PrintLast Go.Proofs.YtfgfnflhdabmcaaW.PrintMore
attribute [local go_sem] max2_int min2_int max_two min_two max_three min_three max_four min_four   -- for this text's walks alone
set_option linter.unusedVariables false
set_option linter.unusedSimpArgs false
/-- which programs may be: the error's number -/
def cfa_Check.f (l0 : List S105) (l1 : List S105) (a2 : Int) : Option Int := some (Cfa.rowsOf (Cfa.opl l0) (Cfa.opl l1) a2).2
theorem cfa_Check.calls (A0 : Option Addr) (c0 : Nat) (l0 : List S105) (A1 : Option Addr) (c1 : Nat) (l1 : List S105) (a2 : Int) (r : Int) (w : World) (hr0 : Kd.C k105 w A0 l0.length l0) (hc0 : l0.length ≤ c0) (hr1 : Kd.C k105 w A1 l1.length l1) (hc1 : l1.length ≤ c1) (h : cfa_Check.f l0 l1 a2 = some r) :
  Calls Try.prog 31 #[.slice A0 l0.length c0, .slice A1 l1.length c1, .int .i64 a2] w fun e w' => e = .returned (.int .i64 r) ∧ Below w.heap.size w w' := by
 obtain rfl := Option.some.inj h
 exact Cfa.check_calls A0 c0 l0 A1 c1 l1 a2 w hr0 hr1 _ rfl
end Go.Proofs.Ytfgfnflhdabmcaa.G
end
