/- What the methods of a table of frame rules do with it. -/
import Derived.Test.YtngddlihppomhaaCfaTab
import Derived.Outline
namespace Go.Proofs.Ytngddlihppomhaa.Cfa
set_option linter.unusedVariables false
set_option linter.unusedSimpArgs false
open Go.RowKit Go.Proofs.Ytngddlihppomhaa.G Go.Proofs.YtngddlihppomhaaW.PrintWords Go.Proofs.YtngddlihppomhaaW.PrintLast Go.Proofs.YtngddlihppomhaaW.PrintMore

/-- What a method answers: whether the op may be there; if so, the table is turned. -/
def Post (base g : Nat) (w : World) (r : Option T) (e : Ending) (w' : World) : Prop :=
  e = .returned (.bool r.isSome) ∧ Below base w w' ∧ ∀ t', r = some t' → ∃ rv kv, Tab w' base g t' rv kv
section
variable {w w' : World} {base g : Nat} {t t' : T} {rv kv : Value} {k r n : Int}
theorem Post.turn (h : Tab w base g t rv kv) (hb : base ≤ w.heap.size) (hg : w.grownBy w' (some g)) (hm : mayF k r n = true) (e : act t k r n = some t') (hr : t'.rows = t.rows) (hk : t'.kept = t.kept)
    (hc : w'.heap[g]? = some (.cells (cells rv kv t').toArray 73 (0, 0))) : Post base g w (act t k r n) (.returned (.bool true)) w' := by
  rw [e]
  refine ⟨rfl, below_grown hg hb h.lo, fun t2 e2 => ?_⟩
  cases e2
  exact ⟨rv, kv, h.turn hg (good_act h.good hm e) hc hr hk⟩
theorem Post.false (hb : Below base w w') (e : act t k r n = none) : Post base g w (act t k r n) (.returned (.bool false)) w' := by
  rw [e]
  exact ⟨rfl, hb, fun _ h => by cases h⟩
theorem now_at (h : Tab w base g t rv kv) (m : Nat) (hm : m ≤ 16) : (w.cell? ⟨g, 4 + m * 2, none⟩ = some (.int .i64 (t.now.getD (ru m) 0)) ∧ w.cell? ⟨g, 4 + m * 2 + 1, none⟩ = some (.int .i64 (t.now.getD (ru m + 1) 0))) ∧
    (w.frozen? ⟨g, 4 + m * 2, none⟩ = false ∧ w.frozen? ⟨g, 4 + m * 2 + 1, none⟩ = false) := by
  refine ⟨⟨?_, ?_⟩, h.free _, h.free _⟩
  · rw [← h.now (ru m) (by simp only [ru]; omega), show 1 + ru m = 4 + m * 2 from by simp only [ru]; omega]
  · rw [← h.now (ru m + 1) (by simp only [ru]; omega), show 1 + (ru m + 1) = 4 + m * 2 + 1 from by simp only [ru]; omega]
theorem set_rule (hb : w.heap[g]? = some (.cells (cells rv kv t).toArray 73 (0, 0))) (h : Good t) (m : Nat) (hm : m ≤ 16) (x y : Int) :
    ((w.setCell ⟨g, 4 + m * 2, none⟩ (.int .i64 x)).setCell ⟨g, 4 + m * 2 + 1, none⟩ (.int .i64 y)).heap[g]? = some (.cells (cells rv kv { t with now := (t.now.set (ru m) x).set (ru m + 1) y }).toArray 73 (0, 0)) := by
  have h1 := set_now hb h (ru m) (by simp only [ru]; omega) x
  have h2 := set_now (t := { t with now := t.now.set (ru m) x }) h1 ⟨by simpa using h.now, h.first, h.rows, h.kept, by show 0 ≤ (t.now.set (ru m) x).getD 0 0; rw [getD_set_ne (ru_ne _).1]; exact h.at0, h.size, by show _ → (t.now.set (ru m) x).getD 0 0 ≤ _; rw [getD_set_ne (ru_ne _).1]; exact h.atS⟩ (ru m + 1) (by simp only [ru]; omega) y
  rw [show 1 + ru m = 4 + m * 2 from by simp only [ru]; omega, show 1 + (ru m + 1) = 4 + m * 2 + 1 from by simp only [ru]; omega] at h2
  exact h2
theorem good_set1 (h : Good t) (x : Int) : Good { t with now := t.now.set 1 x } :=
  ⟨by simpa using h.now, h.first, h.rows, h.kept, by show 0 ≤ (t.now.set 1 x).getD 0 0; rw [getD_set_ne (by decide)]; exact h.at0, h.size, by show _ → (t.now.set 1 x).getD 0 0 ≤ _; rw [getD_set_ne (by decide)]; exact h.atS⟩
theorem act_set {k r : Int} {l : List Int} : mayF k r n = true → 0 ≤ r ∧ r ≤ 16 := may_r
end

theorem nop_calls (w : World) (base g : Nat) (t : T) (rv kv : Value) (h : Tab w base g t rv kv) (hb : base ≤ w.heap.size) (r n : Int) (hm : mayF 0 r n = true) :
    Calls Try.prog 54 #[.pointer (some ⟨g, 0, none⟩), .agg #[.int .i64 0, .int .i64 r, .int .i64 n]] w (Post base g w (act t 0 r n)) := by
  go_enter Try.func54, Try.ntmps54
  go_wp2
  go_ret
  exact Post.turn h hb (grown_alloc (World.grownBy.refl _ _) _) hm rfl rfl rfl (blk_alloc h.blk _)
set_option maxRecDepth 100000 in
theorem offset_calls (w : World) (base g : Nat) (t : T) (rv kv : Value) (h : Tab w base g t rv kv) (hb : base ≤ w.heap.size) (r n : Int) (hm : mayF 5 r n = true) :
    Calls Try.prog 59 #[.pointer (some ⟨g, 0, none⟩), .agg #[.int .i64 5, .int .i64 r, .int .i64 n]] w (Post base g w (act t 5 r n)) := by
  obtain ⟨hr0, hr1⟩ := may_r hm
  obtain ⟨m, rfl⟩ := Int.eq_ofNat_of_zero_le hr0
  obtain ⟨⟨f1, f2⟩, f3, f4⟩ := now_at h m (by omega)
  have hg := blk_lt h.blk
  have H := Aside0.mk h
  have HM := Aside0.mk hm
  have hix := rule_at g 4 m (by omega)
  have H1 := Aside0.mk hr1
  have HB := Aside0.mk hb
  clear h hb hm hr0 hr1
  go_enter Try.func59, Try.ntmps59
  go_wp2
  refine still_tail 10 (by kernel_rfl) (by kernel_rfl) ?_
  simp only [List.take_succ_cons, List.take_zero, List.drop_succ_cons, List.drop_zero]
  repeat still_step
  refine wpStill_nil ?_
  go_wp2
  go_ret
  exact Post.turn H.out HB.out (grown_drew (grown_alloc (grown_set' (grown_set _ _ _ _) _ _) _)) HM.out rfl rfl rfl (blk_alloc (set_rule H.out.blk H.out.good m (by have := H1.out; omega) 2 n) _)
set_option maxRecDepth 100000 in
theorem undefined_calls (w : World) (base g : Nat) (t : T) (rv kv : Value) (h : Tab w base g t rv kv) (hb : base ≤ w.heap.size) (r n : Int) (hm : mayF 7 r n = true) :
    Calls Try.prog 61 #[.pointer (some ⟨g, 0, none⟩), .agg #[.int .i64 7, .int .i64 r, .int .i64 n]] w (Post base g w (act t 7 r n)) := by
  obtain ⟨hr0, hr1⟩ := may_r hm
  obtain ⟨m, rfl⟩ := Int.eq_ofNat_of_zero_le hr0
  obtain ⟨⟨f1, f2⟩, f3, f4⟩ := now_at h m (by omega)
  have hg := blk_lt h.blk
  have H := Aside0.mk h
  have HM := Aside0.mk hm
  have hix := rule_at g 4 m (by omega)
  have H1 := Aside0.mk hr1
  have HB := Aside0.mk hb
  clear h hb hm hr0 hr1
  go_enter Try.func61, Try.ntmps61
  go_wp2
  refine still_tail 8 (by kernel_rfl) (by kernel_rfl) ?_
  simp only [List.take_succ_cons, List.take_zero, List.drop_succ_cons, List.drop_zero]
  repeat still_step
  refine wpStill_nil ?_
  go_wp2
  go_ret
  exact Post.turn H.out HB.out (grown_drew (grown_alloc (grown_set' (grown_set _ _ _ _) _ _) _)) HM.out rfl rfl rfl (blk_alloc (set_rule H.out.blk H.out.good m (by have := H1.out; omega) 1 0) _)
set_option maxRecDepth 100000 in
theorem sameValue_calls (w : World) (base g : Nat) (t : T) (rv kv : Value) (h : Tab w base g t rv kv) (hb : base ≤ w.heap.size) (r n : Int) (hm : mayF 8 r n = true) :
    Calls Try.prog 62 #[.pointer (some ⟨g, 0, none⟩), .agg #[.int .i64 8, .int .i64 r, .int .i64 n]] w (Post base g w (act t 8 r n)) := by
  obtain ⟨hr0, hr1⟩ := may_r hm
  obtain ⟨m, rfl⟩ := Int.eq_ofNat_of_zero_le hr0
  obtain ⟨⟨f1, f2⟩, f3, f4⟩ := now_at h m (by omega)
  have hg := blk_lt h.blk
  have H := Aside0.mk h
  have HM := Aside0.mk hm
  have hix := rule_at g 4 m (by omega)
  have H1 := Aside0.mk hr1
  have HB := Aside0.mk hb
  clear h hb hm hr0 hr1
  go_enter Try.func62, Try.ntmps62
  go_wp2
  refine still_tail 8 (by kernel_rfl) (by kernel_rfl) ?_
  simp only [List.take_succ_cons, List.take_zero, List.drop_succ_cons, List.drop_zero]
  repeat still_step
  refine wpStill_nil ?_
  go_wp2
  go_ret
  exact Post.turn H.out HB.out (grown_drew (grown_alloc (grown_set' (grown_set _ _ _ _) _ _) _)) HM.out rfl rfl rfl (blk_alloc (set_rule H.out.blk H.out.good m (by have := H1.out; omega) 0 0) _)
set_option maxRecDepth 100000 in
theorem defOffset_calls (w : World) (base g : Nat) (t : T) (rv kv : Value) (h : Tab w base g t rv kv) (hb : base ≤ w.heap.size) (r n : Int) (hm : mayF 3 r n = true) :
    Calls Try.prog 57 #[.pointer (some ⟨g, 0, none⟩), .agg #[.int .i64 3, .int .i64 r, .int .i64 n]] w (Post base g w (act t 3 r n)) := by
  have f1 : w.cell? ⟨g, 2, none⟩ = some (.int .i64 (t.now.getD 1 0)) := h.now 1 (by omega)
  have f2 : w.cell? ⟨g, 3, none⟩ = some (.int .i64 (t.now.getD 2 0)) := h.now 2 (by omega)
  have f3 := h.free 2
  have f4 := h.free 3
  have hg := blk_lt h.blk
  have e : act t 3 r n = if 0 ≤ t.now.getD 1 0 then some { t with now := t.now.set 2 n } else none := rfl
  have HE := Aside0.mk e
  have H := Aside0.mk h
  have HM := Aside0.mk hm
  have HB := Aside0.mk hb
  obtain ⟨x, hx⟩ : ∃ x, t.now.getD 1 0 = x := ⟨_, rfl⟩
  rw [hx] at f1
  have HX := Aside0.mk hx
  clear h hb hm e hx
  obtain ⟨v, h1, g1⟩ := may_ge x 0
  have H1 := Aside0.mk h1
  clear h1
  go_enter Try.func57, Try.ntmps57
  go_wp2
  go_ret
  have hgr : w.grownBy ((w.setCell ⟨g, 1 + 2, none⟩ (.int .i64 n)).alloc (.cells #[.int .i64 3, .int .i64 r, .int .i64 n] 40)) (some g) := grown_alloc (grown_set _ _ _ _) _
  have he := HE.out
  rw [HX.out] at he
  have h1 := H1.out
  cases v with
  | true =>
    rw [if_pos (of_decide_eq_true h1)] at he
    exact Post.turn H.out HB.out hgr HM.out he rfl rfl (blk_alloc (set_now H.out.blk H.out.good 2 (by omega) n) _)
  | false =>
    rw [if_neg (of_decide_eq_false h1)] at he
    exact Post.false (below_grown hgr HB.out H.out.lo) he
set_option maxRecDepth 100000 in
theorem defRegister_calls (w : World) (base g : Nat) (t : T) (rv kv : Value) (h : Tab w base g t rv kv) (hb : base ≤ w.heap.size) (r n : Int) (hm : mayF 4 r n = true) :
    Calls Try.prog 58 #[.pointer (some ⟨g, 0, none⟩), .agg #[.int .i64 4, .int .i64 r, .int .i64 n]] w (Post base g w (act t 4 r n)) := by
  have f1 : w.cell? ⟨g, 2, none⟩ = some (.int .i64 (t.now.getD 1 0)) := h.now 1 (by omega)
  have f2 : w.cell? ⟨g, 3, none⟩ = some (.int .i64 (t.now.getD 2 0)) := h.now 2 (by omega)
  have f3 := h.free 2
  have f4 := h.free 3
  have hg := blk_lt h.blk
  have e : act t 4 r n = if 0 ≤ t.now.getD 1 0 then some { t with now := t.now.set 1 r } else none := rfl
  have HE := Aside0.mk e
  have H := Aside0.mk h
  have HM := Aside0.mk hm
  have HB := Aside0.mk hb
  obtain ⟨x, hx⟩ : ∃ x, t.now.getD 1 0 = x := ⟨_, rfl⟩
  rw [hx] at f1
  have HX := Aside0.mk hx
  clear h hb hm e hx
  obtain ⟨v, h1, g1⟩ := may_ge x 0
  have H1 := Aside0.mk h1
  clear h1
  go_enter Try.func58, Try.ntmps58
  go_wp2
  go_ret
  have hgr : w.grownBy ((w.setCell ⟨g, 1 + 1, none⟩ (.int .i64 r)).alloc (.cells #[.int .i64 4, .int .i64 r, .int .i64 n] 40)) (some g) := grown_alloc (grown_set _ _ _ _) _
  have he := HE.out
  rw [HX.out] at he
  have h1 := H1.out
  cases v with
  | true =>
    rw [if_pos (of_decide_eq_true h1)] at he
    exact Post.turn H.out HB.out hgr HM.out he rfl rfl (blk_alloc (set_now H.out.blk H.out.good 1 (by omega) r) _)
  | false =>
    rw [if_neg (of_decide_eq_false h1)] at he
    exact Post.false (below_grown hgr HB.out H.out.lo) he
set_option maxRecDepth 100000 in
theorem restore_calls (w : World) (base g : Nat) (t : T) (rv kv : Value) (h : Tab w base g t rv kv) (hb : base ≤ w.heap.size) (r n : Int) (hm : mayF 6 r n = true) :
    Calls Try.prog 60 #[.pointer (some ⟨g, 0, none⟩), .agg #[.int .i64 6, .int .i64 r, .int .i64 n]] w (Post base g w (act t 6 r n)) := by
  obtain ⟨hr0, hr1⟩ := may_r hm
  obtain ⟨m, rfl⟩ := Int.eq_ofNat_of_zero_le hr0
  obtain ⟨⟨f1, f2⟩, f3, f4⟩ := now_at h m (by omega)
  have f5 : w.cell? ⟨g, 41 + m * 2, none⟩ = some (.int .i64 (t.first.getD (ru m) 0)) := by rw [← h.first (ru m) (by simp only [ru]; omega), show 38 + ru m = 41 + m * 2 from by simp only [ru]; omega]
  have f6 : w.cell? ⟨g, 41 + m * 2 + 1, none⟩ = some (.int .i64 (t.first.getD (ru m + 1) 0)) := by rw [← h.first (ru m + 1) (by simp only [ru]; omega), show 38 + (ru m + 1) = 41 + m * 2 + 1 from by simp only [ru]; omega]
  have e : act t 6 m n = some { t with now := (t.now.set (ru m) (t.first.getD (ru m) 0)).set (ru m + 1) (t.first.getD (ru m + 1) 0) } := rfl
  have hs := set_rule h.blk h.good m (by omega) (t.first.getD (ru m) 0) (t.first.getD (ru m + 1) 0)
  obtain ⟨x, hx⟩ : ∃ x, t.first.getD (ru m) 0 = x := ⟨_, rfl⟩
  obtain ⟨y, hy⟩ : ∃ y, t.first.getD (ru m + 1) 0 = y := ⟨_, rfl⟩
  rw [hx, hy] at e hs
  rw [hx] at f5
  rw [hy] at f6
  have HS := Aside0.mk hs
  have HE := Aside0.mk e
  have hg := blk_lt h.blk
  have H := Aside0.mk h
  have HM := Aside0.mk hm
  have hix := rule_at g 4 m (by omega)
  have hiy := rule_at g 41 m (by omega)
  have HB := Aside0.mk hb
  clear h hb hm hr0 hr1 hs e hx hy
  go_enter Try.func60, Try.ntmps60
  go_wp2
  refine still_tail 15 (by kernel_rfl) (by kernel_rfl) ?_
  simp only [List.take_succ_cons, List.take_zero, List.drop_succ_cons, List.drop_zero]
  repeat still_step
  refine wpStill_nil ?_
  go_wp2
  go_ret
  exact Post.turn H.out HB.out (grown_drew (grown_alloc (grown_set' (grown_set _ _ _ _) _ _) _)) HM.out HE.out rfl rfl (blk_alloc HS.out _)
set_option maxRecDepth 100000 in
theorem defCfa_calls (w : World) (base g : Nat) (t : T) (rv kv : Value) (h : Tab w base g t rv kv) (hb : base ≤ w.heap.size) (r n : Int) (hm : mayF 2 r n = true) :
    Calls Try.prog 56 #[.pointer (some ⟨g, 0, none⟩), .agg #[.int .i64 2, .int .i64 r, .int .i64 n]] w (Post base g w (act t 2 r n)) := by
  have f1 : w.cell? ⟨g, 2, none⟩ = some (.int .i64 (t.now.getD 1 0)) := h.now 1 (by omega)
  have f2 : w.cell? ⟨g, 3, none⟩ = some (.int .i64 (t.now.getD 2 0)) := h.now 2 (by omega)
  have f3 := h.free 2
  have f4 := h.free 3
  have hg := blk_lt h.blk
  have H := Aside0.mk h
  have HM := Aside0.mk hm
  have HB := Aside0.mk hb
  clear h hb hm
  go_enter Try.func56, Try.ntmps56
  go_wp2
  refine start_ (n := 14) (S := fun u => u.cell? ⟨w.heap.size, 1, none⟩ = some (.int .i64 r) ∧ u.cell? ⟨w.heap.size, 2, none⟩ = some (.int .i64 n)) (ds := [13]) #[false, false, false, false, false, false, false, false, false, false, false, false, false, false] (by kernel_rfl) rfl rfl ?_ (fun hHeld => ?_)
  case refine_1 => exact ⟨by go_simp, by go_simp⟩
  refine pure_ (i := 0) (N := some 5) (v := ?_) (a' := ?_) #[true, false, false, false, false, false, false, false, false, false, false, false, false, false] rfl rfl (by kernel_rfl) (fun _ _ _ h => h) (Or.inl ⟨by rfl, ?_⟩) ?_ ?_
  rotate_left
  · intro u
    go_simp
    with_reducible rfl
  rotate_left
  · simp only [Act.put, List.setIfInBounds_toArray, List.set_cons_zero, List.set_cons_succ, i64_w, i32_w]
    rfl
  refine pure_ (i := 1) (N := some 6) (v := ?_) (a' := ?_) #[true, true, false, false, false, false, false, false, false, false, false, false, false, false] rfl rfl (by kernel_rfl) (fun _ _ _ h => h) (Or.inl ⟨by rfl, ?_⟩) ?_ ?_
  rotate_left
  · intro u
    go_simp
    with_reducible rfl
  rotate_left
  · simp only [Act.put, List.setIfInBounds_toArray, List.set_cons_zero, List.set_cons_succ, i64_w, i32_w]
    rfl
  refine pure_ (i := 2) (N := some 7) (v := ?_) (a' := ?_) #[true, true, true, false, false, false, false, false, false, false, false, false, false, false] rfl rfl (by kernel_rfl) (fun _ _ _ h => h) (Or.inl ⟨by rfl, ?_⟩) ?_ ?_
  rotate_left
  · intro u
    go_simp
    with_reducible rfl
  rotate_left
  · simp only [Act.put, List.setIfInBounds_toArray, List.set_cons_zero, List.set_cons_succ, i64_w, i32_w]
    rfl
  refine take_ (i := 3) (N := some 8) (v := ?_) (a' := ?_) #[true, true, true, true, false, false, false, false, false, false, false, false, false, false] rfl rfl (by kernel_rfl) (fun _ _ _ h => h) (Or.inl ⟨by rfl, ?_⟩) hHeld ?_ ?_
  rotate_left
  · rintro u ⟨s0, s1⟩
    go_simp
    with_reducible rfl
  rotate_left
  · simp only [Act.put, List.setIfInBounds_toArray, List.set_cons_zero, List.set_cons_succ, i64_w, i32_w]
    rfl
  refine pure_ (i := 4) (N := some 9) (v := ?_) (a' := ?_) #[true, true, true, true, true, false, false, false, false, false, false, false, false, false] rfl rfl (by kernel_rfl) (fun _ _ _ h => h) (Or.inl ⟨by rfl, ?_⟩) ?_ ?_
  rotate_left
  · intro u
    go_simp
    with_reducible rfl
  rotate_left
  · simp only [Act.put, List.setIfInBounds_toArray, List.set_cons_zero, List.set_cons_succ, i64_w, i32_w]
    rfl
  refine take_ (i := 5) (N := some 10) (v := ?_) (a' := ?_) #[true, true, true, true, true, true, false, false, false, false, false, false, false, false] rfl rfl (by kernel_rfl) (fun _ _ _ h => h) (Or.inl ⟨by rfl, ?_⟩) hHeld ?_ ?_
  rotate_left
  · rintro u ⟨s0, s1⟩
    go_simp
    with_reducible rfl
  rotate_left
  · simp only [Act.put, List.setIfInBounds_toArray, List.set_cons_zero, List.set_cons_succ, i64_w, i32_w]
    rfl
  refine pure_ (i := 6) (N := some 11) (v := ?_) (a' := ?_) #[true, true, true, true, true, true, true, false, false, false, false, false, false, false] rfl rfl (by kernel_rfl) (fun _ _ _ h => h) (Or.inl ⟨by rfl, ?_⟩) ?_ ?_
  rotate_left
  · intro u
    go_simp
    with_reducible rfl
  rotate_left
  · simp only [Act.put, List.setIfInBounds_toArray, List.set_cons_zero, List.set_cons_succ, i64_w, i32_w]
    rfl
  refine pure_ (i := 7) (N := some 12) (v := ?_) (a' := ?_) #[true, true, true, true, true, true, true, true, false, false, false, false, false, false] rfl rfl (by kernel_rfl) (fun _ _ _ h => h) (Or.inl ⟨by rfl, ?_⟩) ?_ ?_
  rotate_left
  · intro u
    go_simp
    with_reducible rfl
  rotate_left
  · simp only [Act.put, List.setIfInBounds_toArray, List.set_cons_zero, List.set_cons_succ, i64_w, i32_w]
    rfl
  refine pure_ (i := 8) (N := some 13) (v := ?_) (a' := ?_) #[true, true, true, true, true, true, true, true, true, false, false, false, false, false] rfl rfl (by kernel_rfl) (fun _ _ _ h => h) (Or.inl ⟨by rfl, ?_⟩) ?_ ?_
  rotate_left
  · intro u
    go_simp
    with_reducible rfl
  rotate_left
  · simp only [Act.put, List.setIfInBounds_toArray, List.set_cons_zero, List.set_cons_succ, i64_w, i32_w]
    rfl
  refine one_ (i := 9) (N := none) #[true, true, true, true, true, true, true, true, true, true, false, false, false, false] rfl rfl (by kernel_rfl) (by decide) (fun K hK => ?_)
  rw [if_pos (by rfl)]
  go_simp
  refine hK.out _ _ ⟨by go_simp, by go_simp⟩ (fun hHeld => ?_)
  clear hK K
  refine pure_ (i := 10) (N := some 14) (v := ?_) (a' := ?_) #[true, true, true, true, true, true, true, true, true, true, true, false, false, false] rfl rfl (by kernel_rfl) (fun _ _ _ h => h) (Or.inl ⟨by rfl, ?_⟩) ?_ ?_
  rotate_left
  · intro u
    go_simp
    with_reducible rfl
  rotate_left
  · simp only [Act.put, List.setIfInBounds_toArray, List.set_cons_zero, List.set_cons_succ, i64_w, i32_w]
    rfl
  refine pure_ (i := 11) (N := some 15) (v := ?_) (a' := ?_) #[true, true, true, true, true, true, true, true, true, true, true, true, false, false] rfl rfl (by kernel_rfl) (fun _ _ _ h => h) (Or.inl ⟨by rfl, ?_⟩) ?_ ?_
  rotate_left
  · intro u
    go_simp
    with_reducible rfl
  rotate_left
  · simp only [Act.put, List.setIfInBounds_toArray, List.set_cons_zero, List.set_cons_succ, i64_w, i32_w]
    rfl
  refine pure_ (i := 12) (N := some 16) (v := ?_) (a' := ?_) #[true, true, true, true, true, true, true, true, true, true, true, true, true, false] rfl rfl (by kernel_rfl) (fun _ _ _ h => h) (Or.inl ⟨by rfl, ?_⟩) ?_ ?_
  rotate_left
  · intro u
    go_simp
    with_reducible rfl
  rotate_left
  · simp only [Act.put, List.setIfInBounds_toArray, List.set_cons_zero, List.set_cons_succ, i64_w, i32_w]
    rfl
  refine last_ (i := 13) (N := none) #[true, true, true, true, true, true, true, true, true, true, true, true, true, true] rfl rfl (by kernel_rfl) (by decide) (fun K hK => ?_)
  rw [if_pos (by rfl)]
  go_simp
  refine hK.out _ _ ?_
  clear hK K
  refine done_ (by kernel_rfl) ?_
  go_wp2
  go_ret
  have h1 := set_now H.out.blk H.out.good 1 (by omega) r
  have h2 := set_now (t := { t with now := t.now.set 1 r }) h1 (good_set1 H.out.good r) 2 (by omega) n
  exact Post.turn H.out HB.out (grown_drew (grown_alloc (grown_set' (grown_set _ _ _ _) _ _) _)) HM.out rfl rfl rfl (blk_alloc h2 _)
end Go.Proofs.Ytngddlihppomhaa.Cfa
