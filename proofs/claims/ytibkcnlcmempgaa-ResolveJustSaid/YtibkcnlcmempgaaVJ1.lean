/- Lemmas and contracts, one text behind the other: what the row of this claim needs; no conditions beyond those that each theorem names. -/
import Derived.Great.Frames
import Derived.Outline
import Derived.BigQuiet
import Derived.Shelf.SlGeneric
import Derived.Shelf.SortM.Plain
import Derived.Shelf.SortM.SortNone
import Derived.Sort.OwnSorted
import Derived.WalkSpells
import Derived.Deep.LoopGhost
import Derived.Test.YtibkcnlcmempgaaVJ0
section
namespace Go.Proofs.Ytibkcnlcmempgaa.Res
set_option linter.unusedVariables false
set_option linter.unusedSimpArgs false
open Go.RowKit Go.Proofs.Ytibkcnlcmempgaa.G Go.Proofs.YtibkcnlcmempgaaW.PrintWords Go.Proofs.YtibkcnlcmempgaaW.PrintLast Go.Proofs.YtibkcnlcmempgaaW.PrintMore Go.Proofs.Ytibkcnlcmempgaa.Raw
open Go.Maps (Keyed)
/-- what is told of a name -/
structure Mean where
  strong : Int
  weak : Int
  needed : Int
  first : S42
  second : S42
  tls : Bool
  plain : Bool
def encM (m : Mean) : List Value := [.int .i64 m.strong, .int .i64 m.weak, .int .i64 m.needed, .string m.first.f0, .int .i64 m.first.f1, .int .i64 m.first.f2, .int .i64 m.first.f3, .int .i64 m.first.f4, .string m.second.f0, .int .i64 m.second.f1, .int .i64 m.second.f2, .int .i64 m.second.f3, .int .i64 m.second.f4, .bool m.tls, .bool m.plain]
def entryOf (s : S38) (a b : Int) : S42 := ⟨s.f0, a, b, s.f4, s.f5⟩
def meet1 (m : Mean) (s : S38) (a b : Int) : Mean :=
  if s.f1.toList = [] then (if s.f4 = 1 then { m with needed := m.needed + 1 } else m)
  else if s.f4 = 1 then (if m.strong = 0 then { m with first := entryOf s a b, strong := m.strong + 1 } else { m with strong := m.strong + 1 })
  else (if m.weak = 0 then { m with second := entryOf s a b, weak := m.weak + 1 } else { m with weak := m.weak + 1 })
def meet2 (m : Mean) (t : Int) : Mean := if t = 0 then m else { m with tls := m.tls || decide (t = 6), plain := m.plain || decide (t ≠ 6) }
def symCells (s : S38) : Array Value := #[.string s.f0, .string s.f1, .int .i64 s.f2, .int .i64 s.f3, .int .i64 s.f4, .int .i64 s.f5]
/-- cells of one name's are written -/
theorem tab_puts {n tt e base g gt : Nat} {w : World} {F : Nat → Prop} {tb : List (Key × List Value)} (hte : e ≠ tt) (h : Tab n tt e w base g F tb (some gt)) (hse : e ≠ 9) (i : Nat) (key : Key) (c : List Value) (hi : tb[i]? = some (key, c)) (l : List (Nat × Value)) (hl : ∀ p ∈ l, p.1 < n ∧ p.2.oneCell' = true) :
    Tab n tt e (puts gt (i * n) l w) base g F (tb.set i (key, sets c l)) (some gt) ∧ Kept w (puts gt (i * n) l w) F ∧ Below base w (puts gt (i * n) l w) := by
  obtain ⟨m, sn, st, hb, hg, hF, hm, hn, ht, hd, ho⟩ := h
  have hit : i < tb.length := (List.getElem?_eq_some_iff.1 hi).1
  have hx : tb[i] = (key, c) := (List.getElem?_eq_some_iff.1 hi).2
  obtain ⟨gt', cap, rfl, hgb, hgs⟩ := Kd.R_form ht (by simp; omega)
  have hgg : gt' = gt := by simpa [Value.ownBlock] using ho
  subst hgg
  have hlen : (tb.map (·.2)).length = tb.length := List.length_map _
  obtain ⟨h1, g1⟩ := raw_puts l ht i (by omega) hl
  have hne : ∀ (k t : Nat) (cs : Array Value), t ≠ e → w.heap[k]? = some (.cells cs t (0, 0)) → some k ≠ some gt' := fun k t cs hte' hk he => by
    obtain ⟨cells, hc⟩ := Kd.R_typed ht gt' (by simp [Value.ownBlock])
    cases he
    rw [hk] at hc
    cases hc
    exact hte' rfl
  have hgF : F gt' := ht.1 gt' (by simp [Value.ownBlock])
  have hK : Kept w (puts gt' (i * n) l w) F := Kept.of_grown g1 (Kept.refl w F) (fun k hk => by cases hk; exact .inl hgF)
  have hB : Below base w (puts gt' (i * n) l w) := pw_below_grown (Below.refl base w) (some gt') (by have := (hF g hg); omega) g1 (fun k hk => by cases hk; exact (hF _ hgF).1)
  have hkeys : (tb.set i (key, sets c l)).map (·.1) = tb.map (·.1) := by
    apply List.ext_getElem?
    intro q
    rw [List.getElem?_map, List.getElem?_map, List.getElem?_set]
    split
    · subst_vars
      rw [hi]
      simp [hit]
    · rfl
  have hvals : (tb.set i (key, sets c l)).map (·.2) = (tb.map (·.2)).set i (sets c l) := List.map_set
  have hget : (tb.map (·.2)).getD i [] = c := by
    rw [List.getD_eq_getElem?_getD, List.getElem?_map, hi]
    rfl
  rw [hget] at h1
  have hnames : (tb.set i (key, sets c l)).map (fun p => asStr p.1) = tb.map fun p => asStr p.1 := by
    have := congrArg (List.map asStr) hkeys
    rw [List.map_map, List.map_map] at this
    exact this
  refine ⟨⟨m, sn, .slice (some ⟨gt', 0, none⟩) (tb.map (·.2)).length cap, blk_grown hb g1 (hne g tt _ (Ne.symm hte) hb), hg, fun j hj => ⟨(hF j hj).1, Nat.lt_of_lt_of_le (hF j hj).2 g1.size⟩, ?_, ?_, ?_, ?_, rfl⟩, hK, hB⟩
  · rcases hm with ⟨rfl, rfl⟩ | ⟨b, rfl, hFb, hM⟩
    · simp at hit
    · refine .inr ⟨b, rfl, hFb, ?_⟩
      rw [List.length_set, hkeys]
      refine Own.MapF.over (e' := e) hM (v := .slice (some ⟨gt', 0, none⟩) 0 0) (fun j hj => ?_) g1
      have : j = gt' := by simpa [Value.ownBlock] using hj.symm
      subst this
      exact Kd.R_typed ht _ (by simp [Value.ownBlock])
  · rw [hnames]
    refine Kd.R_over' (v := .slice (some ⟨gt', 0, none⟩) 0 0) (e' := e) hn (fun j hj => ?_) ?_ g1
    · have : j = gt' := by simpa [Value.ownBlock] using hj.symm
      subst this
      exact Kd.R_typed ht _ (by simp [Value.ownBlock])
    · intro q hq
      have : q = 9 := by simpa [Kd.string, Kd.scalar] using hq
      rw [this]
      exact Ne.symm hse
  · rw [hvals]
    exact h1
  · rw [hkeys]
    exact hd
theorem ie_false {l : List UInt8} (h : ¬ l = []) : l.isEmpty = false := by cases l <;> simp_all
theorem meet_facts {w : World} {base g gt : Nat} {F : Nat → Prop} {tb : List (Key × List Value)} (h : Tab 15 83 66 w base g F tb (some gt)) (i : Nat) (key : Key) (m : Mean) (hi : tb[i]? = some (key, encM m)) :
    gt < w.heap.size ∧ (∀ j u, (encM m)[j]? = some u → w.cell? ⟨gt, i * 15 + j, none⟩ = some u) ∧ ∀ j, w.frozen? ⟨gt, i * 15 + j, none⟩ = false := by
  obtain ⟨m0, sn, st, hb, hg, hF, hm, hn, ht, hd, ho⟩ := h
  have hit : i < tb.length := (List.getElem?_eq_some_iff.1 hi).1
  obtain ⟨gt', cap, rfl, hgb, hgs⟩ := Kd.R_form ht (by simp; omega)
  have hgg : gt' = gt := by simpa [Value.ownBlock] using ho
  subst hgg
  have hget : (tb.map (·.2)).getD i [] = encM m := by
    rw [List.getD_eq_getElem?_getD, List.getElem?_map, hi]
    rfl
  have h1 := raw_cell ht i (by simp; omega)
  rw [hget] at h1
  exact ⟨hgs.1, h1.2.1, h1.2.2⟩
def MeetCut (w0 : World) (base g : Nat) (F : Nat → Prop) (tb : List (Key × List Value)) (gt i : Nat) (key : Key) (m : Mean) (s : S38) (gb : Nat) (w : World) : Prop :=
  Tab 15 83 66 w base g F (tb.set i (key, encM m)) (some gt) ∧ Kept w0 w F ∧ Below base w0 w ∧ w.heap[gb]? = some (.cells (symCells s) 38 (0, 0))
theorem meet_put {w : World} {base g gt : Nat} {F : Nat → Prop} {tb : List (Key × List Value)} (h : Tab 15 83 66 w base g F tb (some gt)) {i : Nat} {key : Key} {m : Mean} (hi : tb[i]? = some (key, encM m)) (s : S38) (l : List (Nat × Value)) (o2 : Obj) (m' : Mean) (hs : sets (encM m) l = encM m') (hl : ∀ p ∈ l, p.1 < 15 ∧ p.2.oneCell' = true) :
    MeetCut w base g F tb gt i key m' s w.heap.size (((puts gt (i * 15) l w).alloc (.cells (symCells s) 38)).alloc o2) := by
  have hbs : base ≤ w.heap.size := by
    obtain ⟨m0, sn, st, hb, hg, hF, _⟩ := h
    have := hF g hg
    omega
  obtain ⟨h1, h2, h3⟩ := tab_puts (by decide) h (by decide) i key _ hi l hl
  rw [hs] at h1
  have hz : (puts gt (i * 15) l w).heap.size = w.heap.size := by
    have : ∀ (l : List (Nat × Value)) (w : World), (puts gt (i * 15) l w).heap.size = w.heap.size := by
      intro l
      induction l with
      | nil => exact fun _ => rfl
      | cons p l ih => exact fun w => (ih _).trans (by simp [World.setCell])
    exact this l w
  refine ⟨(h1.below (below_alloc (below_alloc (Below.refl _ _) _) _)), (h2.alloc _).alloc _, Below.alloc (Below.alloc h3 (by omega) _) (by simp; omega) _, ?_⟩
  refine blk_alloc ?_ _
  have := blk_new (puts gt (i * 15) l w) (.cells (symCells s) 38)
  rw [hz] at this
  exact this
set_option maxHeartbeats 4000000 in
set_option maxRecDepth 100000 in
theorem meet_calls (w : World) (base g gt : Nat) (F : Nat → Prop) (tb : List (Key × List Value)) (h : Tab 15 83 66 w base g F tb (some gt)) (i : Nat) (key : Key) (m : Mean) (hi : tb[i]? = some (key, encM m)) (s : S38) (a b : Int)
    (hm1 : 0 ≤ m.strong ∧ m.strong ≤ 1000000) (hm2 : 0 ≤ m.weak ∧ m.weak ≤ 1000000) (hm3 : 0 ≤ m.needed ∧ m.needed ≤ 1000000) :
    Calls Try.prog 33 #[.pointer (some ⟨gt, i * 15, none⟩), .agg (symCells s), .int .i64 a, .int .i64 b] w fun e w' => e = .returned (.tuple #[]) ∧ Tab 15 83 66 w' base g F (tb.set i (key, encM (meet2 (meet1 m s a b) s.f5))) (some gt) ∧ Kept w w' F ∧ Below base w w' := by
  obtain ⟨hgs, hc, hf⟩ := meet_facts h i key m hi
  have c0 : w.cell? ⟨gt, i * 15, none⟩ = some (.int .i64 m.strong) := hc 0 _ rfl
  have c1 : w.cell? ⟨gt, i * 15 + 1, none⟩ = some (.int .i64 m.weak) := hc 1 _ rfl
  have c2 : w.cell? ⟨gt, i * 15 + 2, none⟩ = some (.int .i64 m.needed) := hc 2 _ rfl
  have c3 : w.cell? ⟨gt, i * 15 + 3, none⟩ = some (.string m.first.f0) := hc 3 _ rfl
  have c4 : w.cell? ⟨gt, i * 15 + 4, none⟩ = some (.int .i64 m.first.f1) := hc 4 _ rfl
  have c5 : w.cell? ⟨gt, i * 15 + 5, none⟩ = some (.int .i64 m.first.f2) := hc 5 _ rfl
  have c6 : w.cell? ⟨gt, i * 15 + 6, none⟩ = some (.int .i64 m.first.f3) := hc 6 _ rfl
  have c7 : w.cell? ⟨gt, i * 15 + 7, none⟩ = some (.int .i64 m.first.f4) := hc 7 _ rfl
  have c8 : w.cell? ⟨gt, i * 15 + 8, none⟩ = some (.string m.second.f0) := hc 8 _ rfl
  have c9 : w.cell? ⟨gt, i * 15 + 9, none⟩ = some (.int .i64 m.second.f1) := hc 9 _ rfl
  have c10 : w.cell? ⟨gt, i * 15 + 10, none⟩ = some (.int .i64 m.second.f2) := hc 10 _ rfl
  have c11 : w.cell? ⟨gt, i * 15 + 11, none⟩ = some (.int .i64 m.second.f3) := hc 11 _ rfl
  have c12 : w.cell? ⟨gt, i * 15 + 12, none⟩ = some (.int .i64 m.second.f4) := hc 12 _ rfl
  have f0 : w.frozen? ⟨gt, i * 15, none⟩ = false := hf 0
  have f1 := hf 1
  have f2 := hf 2
  have f3 := hf 3
  have f4 := hf 4
  have f5 := hf 5
  have f6 := hf 6
  have f7 := hf 7
  have f8 := hf 8
  have f9 := hf 9
  have f10 := hf 10
  have f11 := hf 11
  have f12 := hf 12
  have H0 := Aside0.mk h
  have HI := Aside0.mk hi
  clear h hi hc hf
  go_enter Try.func33, Try.ntmps33
  unfold symCells
  go_upto_block 0 with (fail)
  go_cut [] (fun w1 => MeetCut w base g F tb gt i key (meet1 m s a b) s w.heap.size w1)
  case first =>
    by_cases e1 : s.f1.toList = []
    · have e1b : s.f1.toList.isEmpty = true := by simp [e1]
      by_cases e2 : s.f4 = 1
      · have e2b : (s.f4 == 1) = true := beq_iff_eq.mpr e2
        have E := Aside0.mk (show meet1 m s a b = _ from by unfold meet1; rw [if_pos e1, if_pos e2])
        clear e1 e2
        go_wp2
        go_meet
        rw [E.out]
        exact meet_put H0.out HI.out s [(2, .int .i64 (m.needed + 1))] _ _ rfl (by simp [Value.oneCell'])
      · have e2b : (s.f4 == 1) = false := beq_eq_false_iff_ne.mpr e2
        have E := Aside0.mk (show meet1 m s a b = _ from by unfold meet1; rw [if_pos e1, if_neg e2])
        clear e1 e2
        go_wp2
        go_meet
        rw [E.out]
        exact meet_put H0.out HI.out s [] _ _ rfl (by simp [Value.oneCell'])
    · have e1b : s.f1.toList.isEmpty = false := ie_false e1
      by_cases e2 : s.f4 = 1
      · have e2b : (s.f4 == 1) = true := beq_iff_eq.mpr e2
        by_cases e3 : m.strong = 0
        · have e3b : (m.strong == 0) = true := beq_iff_eq.mpr e3
          have E := Aside0.mk (show meet1 m s a b = _ from by unfold meet1; rw [if_neg e1, if_pos e2, if_pos e3])
          clear e1 e2 e3
          go_wp2
          go_meet
          rw [E.out]
          exact meet_put H0.out HI.out s [(3, .string s.f0), (4, .int .i64 a), (5, .int .i64 b), (6, .int .i64 s.f4), (7, .int .i64 s.f5), (0, .int .i64 (m.strong + 1))] _ _ rfl (by simp [Value.oneCell'])
        · have e3b : (m.strong == 0) = false := beq_eq_false_iff_ne.mpr e3
          have E := Aside0.mk (show meet1 m s a b = _ from by unfold meet1; rw [if_neg e1, if_pos e2, if_neg e3])
          clear e1 e2 e3
          go_wp2
          go_meet
          rw [E.out]
          exact meet_put H0.out HI.out s [(0, .int .i64 (m.strong + 1))] _ _ rfl (by simp [Value.oneCell'])
      · have e2b : (s.f4 == 1) = false := beq_eq_false_iff_ne.mpr e2
        by_cases e3 : m.weak = 0
        · have e3b : (m.weak == 0) = true := beq_iff_eq.mpr e3
          have E := Aside0.mk (show meet1 m s a b = _ from by unfold meet1; rw [if_neg e1, if_neg e2, if_pos e3])
          clear e1 e2 e3
          go_wp2
          go_meet
          rw [E.out]
          exact meet_put H0.out HI.out s [(8, .string s.f0), (9, .int .i64 a), (10, .int .i64 b), (11, .int .i64 s.f4), (12, .int .i64 s.f5), (1, .int .i64 (m.weak + 1))] _ _ rfl (by simp [Value.oneCell'])
        · have e3b : (m.weak == 0) = false := beq_eq_false_iff_ne.mpr e3
          have E := Aside0.mk (show meet1 m s a b = _ from by unfold meet1; rw [if_neg e1, if_neg e2, if_neg e3])
          clear e1 e2 e3
          go_wp2
          go_meet
          rw [E.out]
          exact meet_put H0.out HI.out s [(1, .int .i64 (m.weak + 1))] _ _ rfl (by simp [Value.oneCell'])
  case rest =>
    obtain ⟨hT, hK, hB, hbx⟩ := hcut
    obtain ⟨m1, hm⟩ : ∃ m1, m1 = meet1 m s a b := ⟨_, rfl⟩
    rw [← hm] at hT
    have HMM := Aside0.mk hm
    clear hm hm1 hm2 hm3 c0 c1 c2 c3 c4 c5 c6 c7 c8 c9 c10 c11 c12 f0 f1 f2 f3 f4 f5 f6 f7 f8 f9 f10 f11 f12
    have hit : i < tb.length := (List.getElem?_eq_some_iff.1 HI.out).1
    have hi1 : (tb.set i (key, encM m1))[i]? = some (key, encM m1) := by rw [List.getElem?_set_self hit]
    obtain ⟨hgs1, hc, hf⟩ := meet_facts hT i key m1 hi1
    have c13 : wc.cell? ⟨gt, i * 15 + 13, none⟩ = some (.bool m1.tls) := hc 13 _ rfl
    have c14 : wc.cell? ⟨gt, i * 15 + 14, none⟩ = some (.bool m1.plain) := hc 14 _ rfl
    have f13 := hf 13
    have f14 := hf 14
    have cb : wc.cell? ⟨w.heap.size, 5, none⟩ = some (.int .i64 s.f5) := (blk_cell hbx 5).trans rfl
    have hne : gt ≠ w.heap.size := by omega
    generalize w.heap.size = gb at cb hne hbx ⊢
    have HT := Aside0.mk (And.intro hT (And.intro hK (And.intro hB hi1)))
    clear hT hK hB hbx hgs hgs1 hc hf H0 HI hi1 hit
    have fin : ∀ (l : List (Nat × Value)) (m' : Mean), sets (encM m1) l = encM m' → (∀ p ∈ l, p.1 < 15 ∧ p.2.oneCell' = true) → Tab 15 83 66 (puts gt (i * 15) l wc) base g F (tb.set i (key, encM m')) (some gt) ∧ Kept w (puts gt (i * 15) l wc) F ∧ Below base w (puts gt (i * 15) l wc) := by
      intro l m' hs hl
      obtain ⟨hT, hK, hB, hi1⟩ := HT.out
      obtain ⟨h1, h2, h3⟩ := tab_puts (by decide) hT (by decide) i key _ hi1 l hl
      rw [hs, List.set_set] at h1
      exact ⟨h1, hK.then_ h2 (fun _ hk => .inl hk), hB.trans h3⟩
    have FIN := Aside0.mk fin
    clear fin
    by_cases e1 : s.f5 = 0
    · have E := Aside0.mk (show meet2 (meet1 m s a b) s.f5 = m1 from by rw [← HMM.out]; unfold meet2; rw [if_pos e1])
      have e1b : (s.f5 != 0) = false := bne_eq_false_iff_eq.mpr e1
      clear e1
      go_wp2
      go_end0
      rw [E.out]
      exact ⟨rfl, FIN.out [] _ rfl (by simp)⟩
    · have e1b : (s.f5 != 0) = true := bne_iff_ne.mpr e1
      have E := Aside0.mk (show meet2 (meet1 m s a b) s.f5 = { m1 with tls := m1.tls || decide (s.f5 = 6), plain := m1.plain || decide (s.f5 ≠ 6) } from by rw [← HMM.out]; unfold meet2; rw [if_neg e1])
      clear e1
      by_cases e2 : s.f5 = 6
      · have e2b : (s.f5 == 6) = true := beq_iff_eq.mpr e2
        have e2c : (s.f5 != 6) = false := bne_eq_false_iff_eq.mpr e2
        have EE := Aside0.mk (And.intro (decide_eq_true e2) (show decide (s.f5 ≠ 6) = false from decide_eq_false (fun h => h e2)))
        clear e2
        cases h13 : m1.tls <;> cases h14 : m1.plain
        all_goals
          rw [h13] at c13
          rw [h14] at c14
          have HH := Aside0.mk (And.intro h13 h14)
          clear h13 h14
          go_wp2
          go_end0
          rw [E.out, EE.out.1, EE.out.2, HH.out.1, HH.out.2]
          refine ⟨rfl, ?_⟩
          exact FIN.out [(13, .bool _), (14, .bool _)] _ rfl (by simp [Value.oneCell'])
      · have e2b : (s.f5 == 6) = false := beq_eq_false_iff_ne.mpr e2
        have e2c : (s.f5 != 6) = true := bne_iff_ne.mpr e2
        have EE := Aside0.mk (And.intro (decide_eq_false e2) (decide_eq_true e2))
        clear e2
        cases h13 : m1.tls <;> cases h14 : m1.plain
        all_goals
          rw [h13] at c13
          rw [h14] at c14
          have HH := Aside0.mk (And.intro h13 h14)
          clear h13 h14
          go_wp2
          go_end0
          rw [E.out, EE.out.1, show decide (s.f5 ≠ 6) = true from EE.out.2, HH.out.1, HH.out.2]
          refine ⟨rfl, ?_⟩
          exact FIN.out [(13, .bool _), (14, .bool _)] _ rfl (by simp [Value.oneCell'])
end Go.Proofs.Ytibkcnlcmempgaa.Res
end
section
namespace Go.Proofs.Ytibkcnlcmempgaa.Res
set_option linter.unusedVariables false
set_option linter.unusedSimpArgs false
open Go.RowKit Go.Proofs.Ytibkcnlcmempgaa.G Go.Proofs.YtibkcnlcmempgaaW.PrintWords Go.Proofs.YtibkcnlcmempgaaW.PrintLast Go.Proofs.YtibkcnlcmempgaaW.PrintMore Go.Proofs.Ytibkcnlcmempgaa.Raw
/-- of sections of a name -/
structure Knd where
  some : Bool
  clash : Bool
  typ : Int
  flags : Int
def encK (m : Knd) : List Value := [.bool m.some, .bool m.clash, .int .i64 m.typ, .int .i64 m.flags]
def zE : S42 := ⟨⟨#[]⟩, 0, 0, 0, 0⟩
def zM : Mean := ⟨0, 0, 0, zE, zE, false, false⟩
def zK : Knd := ⟨false, false, 0, 0⟩
/-- a name's place in a table, a new one if need be -/
def ofT {α : Type} (z : α) (k : Key) (tb : List (Key × α)) : List (Key × α) := if k ∈ tb.map (·.1) then tb else tb ++ [(k, z)]
/-- what is told of a name, turned -/
def upT {α : Type} (k : Key) (f : α → α) (tb : List (Key × α)) : List (Key × α) := tb.map fun p => if p.1 = k then (p.1, f p.2) else p
def encT {α : Type} (enc : α → List Value) (tb : List (Key × α)) : List (Key × List Value) := tb.map fun p => (p.1, enc p.2)
theorem encT_keys {α : Type} (enc : α → List Value) (tb : List (Key × α)) : (encT enc tb).map (·.1) = tb.map (·.1) := by simp [encT]
theorem encT_get {α : Type} (enc : α → List Value) (tb : List (Key × α)) (i : Nat) (p : Key × α) (h : tb[i]? = some p) : (encT enc tb)[i]? = some (p.1, enc p.2) := by simp [encT, h]
theorem ofT_nodup {α : Type} (z : α) (k : Key) (tb : List (Key × α)) (h : (tb.map (·.1)).Nodup) : ((ofT z k tb).map (·.1)).Nodup := by
  unfold ofT
  split
  · exact h
  · rename_i hk
    rw [List.map_append, List.nodup_append]
    exact ⟨h, by simp, fun a ha c hc => by rintro rfl; simp at hc; exact hk (hc ▸ ha)⟩
theorem upT_keys {α : Type} (k : Key) (f : α → α) (tb : List (Key × α)) : (upT k f tb).map (·.1) = tb.map (·.1) := by
  unfold upT
  rw [List.map_map]
  apply List.map_congr_left
  intro p _
  simp only [Function.comp]
  split <;> rfl
theorem ofT_mem {α : Type} (z : α) (k : Key) (tb : List (Key × α)) : k ∈ (ofT z k tb).map (·.1) := by
  unfold ofT
  split
  · assumption
  · simp
/-- at a known place -/
theorem upT_set {α : Type} (k : Key) (f : α → α) (tb : List (Key × α)) (h : (tb.map (·.1)).Nodup) (i : Nat) (m : α) (hi : tb[i]? = some (k, m)) : tb.set i (k, f m) = upT k f tb := by
  apply List.ext_getElem?
  intro q
  unfold upT
  rw [List.getElem?_set, List.getElem?_map]
  by_cases hq : i = q
  · subst hq
    rw [if_pos rfl, hi]
    simp [(List.getElem?_eq_some_iff.1 hi).1]
  · rw [if_neg hq]
    cases hp : tb[q]? with
    | none => rfl
    | some p =>
      simp only [Option.map_some]
      rw [if_neg]
      intro e
      have h1 : (tb.map (·.1))[i]? = some k := by rw [List.getElem?_map, hi]; rfl
      have h2 : (tb.map (·.1))[q]? = some k := by rw [List.getElem?_map, hp, ← e]; rfl
      have h3 := (List.getElem?_eq_some_iff.1 h1)
      have h4 := (List.getElem?_eq_some_iff.1 h2)
      exact hq ((List.getElem_inj h).1 (h3.2.trans h4.2.symm))
theorem encT_set {α : Type} (enc : α → List Value) (tb : List (Key × α)) (i : Nat) (k : Key) (m : α) : (encT enc tb).set i (k, enc m) = encT enc (tb.set i (k, m)) := by
  unfold encT
  rw [List.map_set]
/-- one symbol more -/
def stepSym (i k : Nat) (s : S38) (tb : List (Key × Mean)) : List (Key × Mean) :=
  if s.f4 = 0 then tb else upT s.f0.data.toList (fun m => meet2 (meet1 m s i k) s.f5) (ofT zM s.f0.data.toList tb)
def kndF (s : S72) (x : Knd) : Knd :=
  if x.some then { x with clash := x.clash || (decide (x.typ ≠ s.f1) || decide (x.flags ≠ s.f2)) } else { some := true, clash := x.clash, typ := s.f1, flags := s.f2 }
def stepSec (s : S72) (tb : List (Key × Knd)) : List (Key × Knd) := upT s.f0.data.toList (kndF s) (ofT zK s.f0.data.toList tb)
def symsAt (i : Nat) (ss : List S38) (k : Nat) (tb : List (Key × Mean)) : List (Key × Mean) := (List.range k).foldl (fun tb (j : Nat) => stepSym i j (rd_T38 ss (j : Int)) tb) tb
def secsAt (ss : List S72) (k : Nat) (tb : List (Key × Knd)) : List (Key × Knd) := (List.range k).foldl (fun tb (j : Nat) => stepSec (rd_T72 ss (j : Int)) tb) tb
def namesAt (l : List S36) (n : Nat) : List (Key × Mean) := (List.range n).foldl (fun tb (i : Nat) => symsAt i (rd_T36 l (i : Int)).f1 (rd_T36 l (i : Int)).f1.length tb) []
def kindsAt (l : List S36) (n : Nat) : List (Key × Knd) := (List.range n).foldl (fun tb (i : Nat) => secsAt (rd_T36 l (i : Int)).f0 (rd_T36 l (i : Int)).f0.length tb) []
theorem symsAt_succ (i : Nat) (ss : List S38) (k : Nat) (tb : List (Key × Mean)) : symsAt i ss (k + 1) tb = stepSym i k (rd_T38 ss (k : Int)) (symsAt i ss k tb) := by simp [symsAt, List.range_succ]
theorem secsAt_succ (ss : List S72) (k : Nat) (tb : List (Key × Knd)) : secsAt ss (k + 1) tb = stepSec (rd_T72 ss (k : Int)) (secsAt ss k tb) := by simp [secsAt, List.range_succ]
theorem namesAt_succ (l : List S36) (n : Nat) : namesAt l (n + 1) = symsAt n (rd_T36 l (n : Int)).f1 (rd_T36 l (n : Int)).f1.length (namesAt l n) := by simp [namesAt, List.range_succ]
theorem kindsAt_succ (l : List S36) (n : Nat) : kindsAt l (n + 1) = secsAt (rd_T36 l (n : Int)).f0 (rd_T36 l (n : Int)).f0.length (kindsAt l n) := by simp [kindsAt, List.range_succ]
/-- so many at most, and counted so far at most -/
def Small (N : Nat) (tb : List (Key × Mean)) : Prop := tb.length ≤ N ∧ (tb.map (·.1)).Nodup ∧ ∀ p ∈ tb, (0 ≤ p.2.strong ∧ p.2.strong ≤ N) ∧ (0 ≤ p.2.weak ∧ p.2.weak ≤ N) ∧ (0 ≤ p.2.needed ∧ p.2.needed ≤ N)
def SmallK (N : Nat) (tb : List (Key × Knd)) : Prop := tb.length ≤ N ∧ (tb.map (·.1)).Nodup
theorem Small.mono {N N' : Nat} {tb : List (Key × Mean)} (h : Small N tb) (hn : N ≤ N') : Small N' tb :=
  ⟨by have := h.1; omega, h.2.1, fun p hp => by have := h.2.2 p hp; omega⟩
theorem Small.of {N : Nat} {tb : List (Key × Mean)} (h : Small N tb) (k : Key) : Small (N + 1) (ofT zM k tb) := by
  refine ⟨?_, ofT_nodup _ _ _ h.2.1, ?_⟩
  · unfold ofT
    have := h.1
    split
    · omega
    · simp
      omega
  · intro p hp
    unfold ofT at hp
    split at hp
    · have := h.2.2 p hp
      omega
    · rcases List.mem_append.1 hp with hp | hp
      · have := h.2.2 p hp
        omega
      · simp at hp
        subst hp
        simp [zM]
        omega
theorem Small.step {N : Nat} {tb : List (Key × Mean)} (h : Small N tb) (i k : Nat) (s : S38) : Small (N + 1) (stepSym i k s tb) := by
  unfold stepSym
  split
  · exact h.mono (by omega)
  · have h1 := h.of s.f0.data.toList
    refine ⟨by rw [show (upT _ _ _).length = (ofT zM s.f0.data.toList tb).length by simp [upT]]; exact h1.1, by rw [upT_keys]; exact h1.2.1, ?_⟩
    intro p hp
    simp only [upT, List.mem_map] at hp
    obtain ⟨q, hq, rfl⟩ := hp
    have hb : (0 ≤ q.2.strong ∧ q.2.strong ≤ N) ∧ (0 ≤ q.2.weak ∧ q.2.weak ≤ N) ∧ (0 ≤ q.2.needed ∧ q.2.needed ≤ N) := by
      unfold ofT at hq
      split at hq
      · exact h.2.2 q hq
      · rcases List.mem_append.1 hq with hq | hq
        · exact h.2.2 q hq
        · simp at hq
          subst hq
          simp [zM]
    split
    · have e : (meet2 (meet1 q.2 s i k) s.f5).strong = (meet1 q.2 s i k).strong ∧ (meet2 (meet1 q.2 s i k) s.f5).weak = (meet1 q.2 s i k).weak ∧ (meet2 (meet1 q.2 s i k) s.f5).needed = (meet1 q.2 s i k).needed := by
        unfold meet2
        split <;> exact ⟨rfl, rfl, rfl⟩
      simp only []
      rw [e.1, e.2.1, e.2.2]
      unfold meet1
      repeat' split
      all_goals (first | omega | (simp only []; omega))
    · omega
theorem SmallK.step {N : Nat} {tb : List (Key × Knd)} (h : SmallK N tb) (s : S72) : SmallK (N + 1) (stepSec s tb) := by
  refine ⟨?_, ?_⟩
  · unfold stepSec
    rw [show (upT _ _ _).length = (ofT zK s.f0.data.toList tb).length by simp [upT]]
    unfold ofT
    have := h.1
    split
    · omega
    · simp
      omega
  · unfold stepSec
    rw [upT_keys]
    exact ofT_nodup _ _ _ h.2
/-- what may be gathered: few files, few symbols and sections, short names -/
def Fits (l : List S36) : Prop := l.length ≤ 16 ∧ ∀ i, i < l.length → (rd_T36 l (i : Int)).f1.length ≤ 2000 ∧ (rd_T36 l (i : Int)).f0.length ≤ 64 ∧ (∀ k, k < (rd_T36 l (i : Int)).f1.length → (rd_T38 (rd_T36 l (i : Int)).f1 (k : Int)).f0.size ≤ 255) ∧ (∀ k, k < (rd_T36 l (i : Int)).f0.length → (rd_T72 (rd_T36 l (i : Int)).f0 (k : Int)).f0.size ≤ 255)
theorem small_syms {N : Nat} {tb : List (Key × Mean)} (h : Small N tb) (i : Nat) (ss : List S38) (k : Nat) : Small (N + k) (symsAt i ss k tb) := by
  induction k with
  | zero => exact h
  | succ k ih =>
    rw [symsAt_succ]
    exact ih.step i k _
theorem small_secs {N : Nat} {tb : List (Key × Knd)} (h : SmallK N tb) (ss : List S72) (k : Nat) : SmallK (N + k) (secsAt ss k tb) := by
  induction k with
  | zero => exact h
  | succ k ih =>
    rw [secsAt_succ]
    exact ih.step _
theorem small_names (l : List S36) (h : Fits l) (n : Nat) (hn : n ≤ l.length) : Small (2000 * n) (namesAt l n) := by
  induction n with
  | zero => exact ⟨Nat.le_refl _, List.nodup_nil, fun p hp => by cases hp⟩
  | succ n ih =>
    rw [namesAt_succ]
    exact (small_syms (ih (by omega)) n _ _).mono (by have := (h.2 n (by omega)).1; omega)
theorem small_kinds (l : List S36) (h : Fits l) (n : Nat) (hn : n ≤ l.length) : SmallK (64 * n) (kindsAt l n) := by
  induction n with
  | zero => exact ⟨Nat.le_refl _, List.nodup_nil⟩
  | succ n ih =>
    rw [kindsAt_succ]
    have h1 := small_secs (ih (by omega)) (rd_T36 l (n : Int)).f0 (rd_T36 l (n : Int)).f0.length
    exact ⟨by have := (h.2 n (by omega)).2.1; have := h1.1; omega, h1.2⟩
end Go.Proofs.Ytibkcnlcmempgaa.Res
end
section
namespace Go.Proofs.Ytibkcnlcmempgaa.Res
set_option linter.unusedVariables false
set_option linter.unusedSimpArgs false
open Go.RowKit Go.Proofs.Ytibkcnlcmempgaa.G Go.Proofs.YtibkcnlcmempgaaW.PrintWords Go.Proofs.YtibkcnlcmempgaaW.PrintLast Go.Proofs.YtibkcnlcmempgaaW.PrintMore Go.Proofs.Ytibkcnlcmempgaa.Raw
abbrev TabM := Tab 15 83 66
abbrev TabK := Tab 4 86 91
theorem key_get {α : Type} (k : Key) (tb : List (Key × α)) (h : k ∈ tb.map (·.1)) : ∃ (i : Nat) (m : α), tb[i]? = some (k, m) := by
  obtain ⟨p, hp, rfl⟩ := List.mem_map.1 h
  obtain ⟨i, hi, e⟩ := List.getElem_of_mem hp
  exact ⟨i, p.2, by rw [List.getElem?_eq_getElem hi, e]⟩
theorem ofM_calls (w : World) (base g : Nat) (F : Nat → Prop) (tb : List (Key × Mean)) (o : Option Nat) (h : TabM w base g F (encT encM tb) o) (hl : tb.length ≤ 1000000) (s : ByteArray) (hs : s.size ≤ 255) :
    Calls Try.prog 24 #[.pointer (some ⟨g, 0, none⟩), .string s] w fun e w' => ∃ gt F' i m, e = .returned (.pointer (some ⟨gt, i * 15, none⟩)) ∧ (ofT zM s.data.toList tb)[i]? = some (s.data.toList, m) ∧ TabM w' base g F' (encT encM (ofT zM s.data.toList tb)) (some gt) ∧ (∀ j, F' j → F j ∨ w.heap.size ≤ j) ∧ Kept w w' F ∧ Below base w w' := by
  have hlen : (encT encM tb).length = tb.length := by simp [encT]
  by_cases hk : s.data.toList ∈ tb.map (·.1)
  · obtain ⟨i, m, hi⟩ := key_get _ _ hk
    have e : ofT zM s.data.toList tb = tb := if_pos hk
    rw [e]
    refine (ofM_there w base g F _ o h s (by omega) i (by rw [encT_keys, List.getElem?_map, hi]; rfl) (by omega)).mono ?_
    rintro e' w' ⟨gt, rfl, rfl, rfl⟩
    exact ⟨gt, F, i, m, rfl, hi, h, fun _ hj => .inl hj, Kept.refl _ _, Below.refl _ _⟩
  · have e : ofT zM s.data.toList tb = tb ++ [(s.data.toList, zM)] := if_neg hk
    rw [e]
    refine (ofM_new w base g F _ o h s (by omega) (by rw [encT_keys]; exact hk) (by omega)).mono ?_
    rintro e' w' ⟨gt, F', rfl, hT, h1, h2, h3⟩
    refine ⟨gt, F', tb.length, zM, by rw [hlen], by simp, ?_, h1, h2, h3⟩
    have : encT encM (tb ++ [(s.data.toList, zM)]) = encT encM tb ++ [(s.data.toList, encM zM)] := by simp [encT]
    rw [this]
    exact hT
theorem ofK_calls (w : World) (base g : Nat) (F : Nat → Prop) (tb : List (Key × Knd)) (o : Option Nat) (h : TabK w base g F (encT encK tb) o) (hl : tb.length ≤ 1000000) (s : ByteArray) (hs : s.size ≤ 255) :
    Calls Try.prog 34 #[.pointer (some ⟨g, 0, none⟩), .string s] w fun e w' => ∃ gt F' i m, e = .returned (.pointer (some ⟨gt, i * 4, none⟩)) ∧ (ofT zK s.data.toList tb)[i]? = some (s.data.toList, m) ∧ TabK w' base g F' (encT encK (ofT zK s.data.toList tb)) (some gt) ∧ (∀ j, F' j → F j ∨ w.heap.size ≤ j) ∧ Kept w w' F ∧ Below base w w' := by
  have hlen : (encT encK tb).length = tb.length := by simp [encT]
  by_cases hk : s.data.toList ∈ tb.map (·.1)
  · obtain ⟨i, m, hi⟩ := key_get _ _ hk
    have e : ofT zK s.data.toList tb = tb := if_pos hk
    rw [e]
    refine (ofK_there w base g F _ o h s (by omega) i (by rw [encT_keys, List.getElem?_map, hi]; rfl) (by omega)).mono ?_
    rintro e' w' ⟨gt, rfl, rfl, rfl⟩
    exact ⟨gt, F, i, m, rfl, hi, h, fun _ hj => .inl hj, Kept.refl _ _, Below.refl _ _⟩
  · have e : ofT zK s.data.toList tb = tb ++ [(s.data.toList, zK)] := if_neg hk
    rw [e]
    refine (ofK_new w base g F _ o h s (by omega) (by rw [encT_keys]; exact hk) (by omega)).mono ?_
    rintro e' w' ⟨gt, F', rfl, hT, h1, h2, h3⟩
    refine ⟨gt, F', tb.length, zK, by rw [hlen], by simp, ?_, h1, h2, h3⟩
    have : encT encK (tb ++ [(s.data.toList, zK)]) = encT encK tb ++ [(s.data.toList, encK zK)] := by simp [encT]
    rw [this]
    exact hT
/-- both tables; blocks that are kept apart from them -/
def GI (keep : Nat → Prop) (base g1 g2 : Nat) (w0 w : World) (tb1 : List (Key × Mean)) (tb2 : List (Key × Knd)) : Prop :=
  ∃ F1 F2 o1 o2, TabM w base g1 F1 (encT encM tb1) o1 ∧ TabK w base g2 F2 (encT encK tb2) o2 ∧ (∀ j, F1 j → ¬ F2 j ∧ ¬ keep j) ∧ (∀ j, F2 j → ¬ keep j) ∧ Below base w0 w
theorem GI.below {keep : Nat → Prop} {base g1 g2 : Nat} {w0 w w' : World} {tb1 : List (Key × Mean)} {tb2 : List (Key × Knd)} (h : GI keep base g1 g2 w0 w tb1 tb2) (hb : Below w.heap.size w w') : GI keep base g1 g2 w0 w' tb1 tb2 := by
  obtain ⟨F1, F2, o1, o2, h1, h2, h3, h4, h5⟩ := h
  have hbs : base ≤ w.heap.size := by
    obtain ⟨m0, sn, st, hb, hg, hF, _⟩ := h1
    have := hF g1 hg
    omega
  exact ⟨F1, F2, o1, o2, h1.below hb, h2.below hb, h3, h4, below_then h5 hbs hb⟩
theorem GI.lt {keep : Nat → Prop} {base g1 g2 : Nat} {w0 w : World} {tb1 : List (Key × Mean)} {tb2 : List (Key × Knd)} (h : GI keep base g1 g2 w0 w tb1 tb2) : base ≤ w.heap.size ∧ Below base w0 w := by
  obtain ⟨F1, F2, o1, o2, h1, h2, h3, h4, h5⟩ := h
  obtain ⟨m0, sn, st, hb, hg, hF, _⟩ := h1
  have := hF g1 hg
  exact ⟨by omega, h5⟩
/-- a block that is new since is none of theirs -/
theorem GI.keep {keep : Nat → Prop} {base g1 g2 : Nat} {w0 w : World} {tb1 : List (Key × Mean)} {tb2 : List (Key × Knd)} (h : GI keep base g1 g2 w0 w tb1 tb2) {w' : World} (hb : Below w.heap.size w w') : GI (fun j => keep j ∨ w.heap.size ≤ j) base g1 g2 w0 w' tb1 tb2 := by
  obtain ⟨F1, F2, o1, o2, h1, h2, h3, h4, h5⟩ := h
  have hbs := (GI.lt ⟨F1, F2, o1, o2, h1, h2, h3, h4, h5⟩).1
  have l1 : ∀ j, F1 j → j < w.heap.size := by
    obtain ⟨m0, sn, st, hb, hg, hF, _⟩ := h1
    exact fun j hj => (hF j hj).2
  have l2 : ∀ j, F2 j → j < w.heap.size := by
    obtain ⟨m0, sn, st, hb, hg, hF, _⟩ := h2
    exact fun j hj => (hF j hj).2
  exact ⟨F1, F2, o1, o2, h1.below hb, h2.below hb, fun j hj => ⟨(h3 j hj).1, fun hk => hk.elim (h3 j hj).2 (fun hk => by have := l1 j hj; omega)⟩, fun j hj hk => hk.elim (h4 j hj) (fun hk => by have := l2 j hj; omega), below_then h5 hbs hb⟩
theorem GI.drop {keep keep' : Nat → Prop} {base g1 g2 : Nat} {w0 w : World} {tb1 : List (Key × Mean)} {tb2 : List (Key × Knd)} (h : GI keep base g1 g2 w0 w tb1 tb2) (hk : ∀ j, keep' j → keep j) : GI keep' base g1 g2 w0 w tb1 tb2 := by
  obtain ⟨F1, F2, o1, o2, h1, h2, h3, h4, h5⟩ := h
  exact ⟨F1, F2, o1, o2, h1, h2, fun j hj => ⟨(h3 j hj).1, fun e => (h3 j hj).2 (hk j e)⟩, fun j hj e => h4 j hj (hk j e), h5⟩
theorem gi_start (w : World) : GI (fun _ => False) w.heap.size w.heap.size (w.heap.size + 1) w ((w.alloc (.cells #[.map none, .slice none 0 0, .slice none 0 0] 83)).alloc (.cells #[.map none, .slice none 0 0, .slice none 0 0] 86)) [] [] := by
  have h0 := blk_new w (.cells #[.map none, .slice none 0 0, .slice none 0 0] 83)
  have h1 := blk_new (w.alloc (.cells #[.map none, .slice none 0 0, .slice none 0 0] 83)) (.cells #[.map none, .slice none 0 0, .slice none 0 0] 86)
  have hs : (w.alloc (.cells #[.map none, .slice none 0 0, .slice none 0 0] 83)).heap.size = w.heap.size + 1 := by simp
  rw [hs] at h1
  refine ⟨fun j => j = w.heap.size, fun j => j = w.heap.size + 1, none, none, ⟨_, _, _, blk_alloc h0 _, rfl, ?_, .inl ⟨rfl, rfl⟩, Kd.R_nil _ _ _ _ _, Kd.R_nil _ _ _ _ _, List.nodup_nil, rfl⟩, ⟨_, _, _, h1, rfl, ?_, .inl ⟨rfl, rfl⟩, Kd.R_nil _ _ _ _ _, Kd.R_nil _ _ _ _ _, List.nodup_nil, rfl⟩, fun j hj => ⟨by simp only [] at *; omega, id⟩, fun _ _ => id, below_alloc (below_alloc (Below.refl _ _) _) _⟩
  · rintro j rfl
    exact ⟨Nat.le_refl _, by simp; omega⟩
  · rintro j rfl
    exact ⟨by omega, by simp⟩
/-- names' table has been written -/
theorem GI.names {keep : Nat → Prop} {base g1 g2 : Nat} {w0 w w' : World} {tb1' : List (Key × Mean)} {tb2 : List (Key × Knd)} {F1 F2 F1' : Nat → Prop} {o1' o2 : Option Nat} (h2 : TabK w base g2 F2 (encT encK tb2) o2) (h3 : ∀ j, F1 j → ¬ F2 j ∧ ¬ keep j) (h4 : ∀ j, F2 j → ¬ keep j) (h5 : Below base w0 w) (hk0 : ∀ j, keep j → j < w.heap.size)
    (h1' : TabM w' base g1 F1' (encT encM tb1') o1') (hF : ∀ j, F1' j → F1 j ∨ w.heap.size ≤ j) (hK : Kept w w' F1) (hB : Below base w w') : GI keep base g1 g2 w0 w' tb1' tb2 := by
  have l2 : ∀ j, F2 j → j < w.heap.size := by
    obtain ⟨m0, sn, st, hb, hg, hF, _⟩ := h2
    exact fun j hj => (hF j hj).2
  exact ⟨F1', F2, o1', o2, h1', h2.kept hK.1 (fun j hj => hK.2 j (l2 j hj) (fun e => (h3 j e).1 hj)), fun j hj => (hF j hj).elim (h3 j) (fun h => ⟨fun e => by have := l2 j e; omega, fun e => by have := hk0 j e; omega⟩), h4, h5.trans hB⟩
theorem GI.kinds {keep : Nat → Prop} {base g1 g2 : Nat} {w0 w w' : World} {tb1 : List (Key × Mean)} {tb2' : List (Key × Knd)} {F1 F2 F2' : Nat → Prop} {o1 o2' : Option Nat} (h1 : TabM w base g1 F1 (encT encM tb1) o1) (h3 : ∀ j, F1 j → ¬ F2 j ∧ ¬ keep j) (h4 : ∀ j, F2 j → ¬ keep j) (h5 : Below base w0 w) (hk0 : ∀ j, keep j → j < w.heap.size)
    (h2' : TabK w' base g2 F2' (encT encK tb2') o2') (hF : ∀ j, F2' j → F2 j ∨ w.heap.size ≤ j) (hK : Kept w w' F2) (hB : Below base w w') : GI keep base g1 g2 w0 w' tb1 tb2' := by
  have l1 : ∀ j, F1 j → j < w.heap.size := by
    obtain ⟨m0, sn, st, hb, hg, hF, _⟩ := h1
    exact fun j hj => (hF j hj).2
  exact ⟨F1, F2', o1, o2', h1.kept hK.1 (fun j hj => hK.2 j (l1 j hj) (fun e => (h3 j hj).1 e)), h2', fun j hj => ⟨fun e => (hF j e).elim (h3 j hj).1 (fun h => by have := l1 j hj; omega), (h3 j hj).2⟩, fun j hj => (hF j hj).elim (h4 j) (fun h e => by have := hk0 j e; omega), h5.trans hB⟩
end Go.Proofs.Ytibkcnlcmempgaa.Res
end
section
namespace Go.Proofs.Ytibkcnlcmempgaa.Res
set_option linter.unusedVariables false
set_option linter.unusedSimpArgs false
open Go.RowKit Go.Proofs.Ytibkcnlcmempgaa.G Go.Proofs.YtibkcnlcmempgaaW.PrintWords Go.Proofs.YtibkcnlcmempgaaW.PrintLast Go.Proofs.YtibkcnlcmempgaaW.PrintMore Go.Proofs.Ytibkcnlcmempgaa.Raw
theorem there_M {W : World} {base g1 : Nat} {F : Nat → Prop} {tb : List (Key × Mean)} {o : Option Nat} (h : TabM W base g1 F (encT encM tb) o) (s : ByteArray) (hs : s.size ≤ 255) {i : Nat} {m : Mean} (hi : tb[i]? = some (s.data.toList, m)) (hl : tb.length ≤ 1000000) :
    ∃ gt, gt < W.heap.size ∧ (∀ j u, (encM m)[j]? = some u → W.cell? ⟨gt, i * 15 + j, none⟩ = some u) ∧ ∀ W', W' = W → Calls Try.prog 24 #[.pointer (some ⟨g1, 0, none⟩), .string s] W' fun e w' => e = .returned (.pointer (some ⟨gt, i * 15, none⟩)) ∧ w' = W := by
  have hlen : (encT encM tb).length = tb.length := by simp [encT]
  have hit : i < tb.length := (List.getElem?_eq_some_iff.1 hi).1
  obtain ⟨gt, rfl⟩ : ∃ gt, o = some gt := by
    obtain ⟨m0, sn, st, hb, hg, hF, hm, hn, ht, hd, ho⟩ := h
    obtain ⟨gt, cap, rfl, _⟩ := Kd.R_form ht (by simp; omega)
    exact ⟨gt, ho.symm⟩
  obtain ⟨h1, h2, _⟩ := meet_facts h i _ m (encT_get encM _ _ _ hi)
  refine ⟨gt, h1, h2, fun W' hW => ?_⟩
  subst hW
  refine (ofM_there W' base g1 F _ _ h s (by omega) i (by rw [encT_keys, List.getElem?_map, hi]; rfl) (by omega)).mono ?_
  rintro e w' ⟨gt', heq, rfl, rfl⟩
  obtain rfl := Option.some.inj heq
  exact ⟨rfl, rfl⟩
def boxP (W : World) (pb g t : Nat) : Prop := W.heap[pb]? = some (.cells #[.pointer (some ⟨g, 0, none⟩)] t (0, 0))
set_option maxRecDepth 100000 in
theorem twice_calls {W : World} {base g1 : Nat} {F : Nat → Prop} {tb : List (Key × Mean)} {o : Option Nat} (h : TabM W base g1 F (encT encM tb) o) (pb : Nat) (hp : boxP W pb g1 58) (s : ByteArray) (hs : s.size ≤ 255) {i : Nat} {m : Mean} (hi : tb[i]? = some (s.data.toList, m)) (hl : tb.length ≤ 1000000) :
    Calls Try.prog 36 #[.string s, .pointer (some ⟨pb, 0, none⟩)] W fun e w' => e = .returned (.bool (decide (1 < m.strong))) ∧ ∃ q, w' = W.drewN q := by
  obtain ⟨gt, hgt, hc, hcall⟩ := there_M h s hs hi hl
  have c0 : W.cell? ⟨gt, i * 15, none⟩ = some (.int .i64 m.strong) := hc 0 _ rfl
  have p0 : W.cell? ⟨pb, 0, none⟩ = some (.pointer (some ⟨g1, 0, none⟩)) := (blk_cell hp 0).trans rfl
  have HC := Aside0.mk (hcall W rfl)
  clear h hp hi hc hcall
  go_enter Try.func36, Try.ntmps36
  go_wp2_with fail
  refine HC.out.mono ?_
  rintro e w' ⟨rfl, rfl⟩
  go_wp2
  go_ret
  exact ⟨rfl, 0, rfl⟩
set_option maxRecDepth 100000 in
theorem mixed_calls {W : World} {base g1 : Nat} {F : Nat → Prop} {tb : List (Key × Mean)} {o : Option Nat} (h : TabM W base g1 F (encT encM tb) o) (pb : Nat) (hp : boxP W pb g1 58) (s : ByteArray) (hs : s.size ≤ 255) {i : Nat} {m : Mean} (hi : tb[i]? = some (s.data.toList, m)) (hl : tb.length ≤ 1000000) :
    Calls Try.prog 38 #[.string s, .pointer (some ⟨pb, 0, none⟩)] W fun e w' => e = .returned (.bool (m.tls && m.plain)) ∧ ∃ q, w' = W.drewN q := by
  obtain ⟨gt, hgt, hc, hcall⟩ := there_M h s hs hi hl
  have c13 : W.cell? ⟨gt, i * 15 + 13, none⟩ = some (.bool m.tls) := hc 13 _ rfl
  have c14 : W.cell? ⟨gt, i * 15 + 14, none⟩ = some (.bool m.plain) := hc 14 _ rfl
  have p0 : W.cell? ⟨pb, 0, none⟩ = some (.pointer (some ⟨g1, 0, none⟩)) := (blk_cell hp 0).trans rfl
  have HC := Aside0.mk (hcall W rfl)
  clear h hp hi hc hcall
  cases ht : m.tls <;> cases hq : m.plain
  all_goals
    rw [ht] at c13
    rw [hq] at c14
    clear ht hq
    go_enter Try.func38, Try.ntmps38
    go_wp2_with fail
    refine HC.out.mono ?_
    rintro e w' ⟨rfl, rfl⟩
    go_wp2
    go_ret
    exact ⟨rfl, 0, rfl⟩
set_option maxRecDepth 100000 in
theorem lacks_calls {W : World} {base g1 : Nat} {F : Nat → Prop} {tb : List (Key × Mean)} {o : Option Nat} (h : TabM W base g1 F (encT encM tb) o) (pb : Nat) (hp : boxP W pb g1 58) (s : ByteArray) (hs : s.size ≤ 255) {i : Nat} {m : Mean} (hi : tb[i]? = some (s.data.toList, m)) (hl : tb.length ≤ 1000000)
    (hm1 : 0 ≤ m.strong ∧ m.strong ≤ 1000000) (hm2 : 0 ≤ m.weak ∧ m.weak ≤ 1000000) :
    Calls Try.prog 37 #[.string s, .pointer (some ⟨pb, 0, none⟩)] W fun e w' => e = .returned (.bool ((m.strong + m.weak == 0) && decide (0 < m.needed))) ∧ ∃ q, w' = W.drewN q := by
  obtain ⟨gt, hgt, hc, hcall⟩ := there_M h s hs hi hl
  have c0 : W.cell? ⟨gt, i * 15, none⟩ = some (.int .i64 m.strong) := hc 0 _ rfl
  have c1 : W.cell? ⟨gt, i * 15 + 1, none⟩ = some (.int .i64 m.weak) := hc 1 _ rfl
  have c2 : W.cell? ⟨gt, i * 15 + 2, none⟩ = some (.int .i64 m.needed) := hc 2 _ rfl
  have p0 : W.cell? ⟨pb, 0, none⟩ = some (.pointer (some ⟨g1, 0, none⟩)) := (blk_cell hp 0).trans rfl
  have HC := Aside0.mk (hcall W rfl)
  have hw : wrap64 (m.strong + m.weak) = m.strong + m.weak := by unfold wrap64; omega
  clear h hp hi hc hcall
  have h0 : 0 ≤ m.strong + m.weak ∧ m.strong + m.weak ≤ 2000000 := by omega
  cases hz : (m.strong + m.weak == 0)
  all_goals
    go_enter Try.func37, Try.ntmps37
    go_wp2_with fail
    refine HC.out.mono ?_
    rintro e w' ⟨rfl, rfl⟩
    go_wp2
    go_quiet (fail)
    go_wp2
    go_ret
    exact ⟨rfl, _, rfl⟩
theorem clash_calls {W : World} {base g2 : Nat} {F : Nat → Prop} {tb : List (Key × Knd)} {o : Option Nat} (h : TabK W base g2 F (encT encK tb) o) (pb : Nat) (hp : boxP W pb g2 59) (s : ByteArray) (hs : s.size ≤ 255) {i : Nat} {m : Knd} (hi : tb[i]? = some (s.data.toList, m)) (hl : tb.length ≤ 1000000) :
    Calls Try.prog 40 #[.string s, .pointer (some ⟨pb, 0, none⟩)] W fun e w' => e = .returned (.bool m.clash) ∧ ∃ q, w' = W.drewN q := by
  have hlen : (encT encK tb).length = tb.length := by simp [encT]
  have hit : i < tb.length := (List.getElem?_eq_some_iff.1 hi).1
  obtain ⟨gt, rfl⟩ : ∃ gt, o = some gt := by
    obtain ⟨m0, sn, st, hb, hg, hF, hm, hn, ht, hd, ho⟩ := h
    obtain ⟨gt, cap, rfl, _⟩ := Kd.R_form ht (by simp; omega)
    exact ⟨gt, ho.symm⟩
  have hc1 : W.cell? ⟨gt, i * 4 + 1, none⟩ = some (.bool m.clash) := by
    obtain ⟨m0, sn, st, hb, hg, hF, hm, hn, ht, hd, ho⟩ := h
    obtain ⟨gt', cap, rfl, hgb, hgs⟩ := Kd.R_form ht (by simp; omega)
    have hgg : gt' = gt := by simpa [Value.ownBlock] using ho
    subst hgg
    have hget : ((encT encK tb).map (·.2)).getD i [] = encK m := by
      rw [List.getD_eq_getElem?_getD, List.getElem?_map, encT_get _ _ _ _ hi]
      rfl
    have h1 := raw_cell ht i (by simp; omega)
    rw [hget] at h1
    exact h1.2.1 1 _ rfl
  have p0 : W.cell? ⟨pb, 0, none⟩ = some (.pointer (some ⟨g2, 0, none⟩)) := (blk_cell hp 0).trans rfl
  have HC := Aside0.mk (ofK_there W base g2 F _ _ h s (by omega) i (by rw [encT_keys, List.getElem?_map, hi]; rfl) (by omega))
  clear h hp hi
  go_enter Try.func40, Try.ntmps40
  go_wp2_with fail
  refine HC.out.mono ?_
  rintro e w' ⟨gt', heq, rfl, rfl⟩
  obtain rfl := Option.some.inj heq
  clear heq
  go_wp2
  go_ret
  exact ⟨rfl, 0, rfl⟩
end Go.Proofs.Ytibkcnlcmempgaa.Res
end
section
namespace Go.Proofs.Ytibkcnlcmempgaa.Res
set_option linter.unusedVariables false
set_option linter.unusedSimpArgs false
open Go.RowKit Go.Proofs.Ytibkcnlcmempgaa.G Go.Proofs.YtibkcnlcmempgaaW.PrintWords Go.Proofs.YtibkcnlcmempgaaW.PrintLast Go.Proofs.YtibkcnlcmempgaaW.PrintMore Go.Proofs.Ytibkcnlcmempgaa.Raw
def lSort_ren : Go.Shelf.Ren := ⟨fun | 6 => 42 | 8 => 50 | 9 => 49 | 19 => 62 | 20 => 63 | 21 => 53 | 22 => 54 | 23 => 55 | 24 => 56 | 25 => 57 | 26 => 58 | 27 => 59 | 28 => 60 | 29 => 61 | 36 => 65 | 31 => 66 | 32 => 67 | 37 => 68 | 38 => 69 | 39 => 70 | 41 => 72 | n => n, fun | 27 => 63 | 29 => 9 | 3 => 3 | 32 => 106 | 26 => 63 | 0 => 0 | 44 => 118 | 46 => 120 | 4 => 4 | 36 => 111 | 35 => 110 | 41 => 96 | 5 => 5 | 9 => 9 | 53 => 121 | 57 => 125 | 63 => 127 | 64 => 128 | n => n, fun | n => n⟩
theorem lSort : SlLaysM.n6 Try.prog lSort_ren := {
  mixed := by kernel_rfl
  f6 := ⟨Try.f42.name, by decide, Try.func42.trans (congrArg some (by kernel_rfl))⟩
  f8 := Try.func50.trans (congrArg some (by kernel_rfl))
  f9 := ⟨Try.f49.name, by decide, Try.func49.trans (congrArg some (by kernel_rfl))⟩
  f19 := Try.func62.trans (congrArg some (by kernel_rfl))
  f20 := Try.func63.trans (congrArg some (by kernel_rfl))
  f21 := ⟨Try.f53.name, by decide, Try.func53.trans (congrArg some (by kernel_rfl))⟩
  f22 := ⟨Try.f54.name, by decide, Try.func54.trans (congrArg some (by kernel_rfl))⟩
  f23 := ⟨Try.f55.name, by decide, Try.func55.trans (congrArg some (by kernel_rfl))⟩
  f24 := ⟨Try.f56.name, by decide, Try.func56.trans (congrArg some (by kernel_rfl))⟩
  f25 := ⟨Try.f57.name, by decide, Try.func57.trans (congrArg some (by kernel_rfl))⟩
  f26 := ⟨Try.f58.name, by decide, Try.func58.trans (congrArg some (by kernel_rfl))⟩
  f27 := ⟨Try.f59.name, by decide, Try.func59.trans (congrArg some (by kernel_rfl))⟩
  f28 := ⟨Try.f60.name, by decide, Try.func60.trans (congrArg some (by kernel_rfl))⟩
  f29 := ⟨Try.f61.name, by decide, Try.func61.trans (congrArg some (by kernel_rfl))⟩
  f31 := Try.func66.trans (congrArg some (by kernel_rfl))
  f32 := Try.func67.trans (congrArg some (by kernel_rfl))
  f36 := ⟨Try.f65.name, by decide, Try.func65.trans (congrArg some (by kernel_rfl))⟩
  f37 := ⟨Try.f68.name, by decide, Try.func68.trans (congrArg some (by kernel_rfl))⟩
  f38 := ⟨Try.f69.name, by decide, Try.func69.trans (congrArg some (by kernel_rfl))⟩
  f39 := ⟨Try.f70.name, by decide, Try.func70.trans (congrArg some (by kernel_rfl))⟩
  f41 := ⟨Try.f72.name, by decide, Try.func72.trans (congrArg some (by kernel_rfl))⟩
  t0 := Try.underlying0
  a0 := Try.isAgg0
  z0 := Try.sizeOf0
  v0 := Try.zeroValue0
  t3 := Try.underlying3
  a3 := Try.isAgg3
  z3 := Try.sizeOf3
  v3 := Try.zeroValue3
  t4 := Try.underlying4
  a4 := Try.isAgg4
  z4 := Try.sizeOf4
  v4 := Try.zeroValue4
  t5 := Try.underlying5
  a5 := Try.isAgg5
  z5 := Try.sizeOf5
  v5 := Try.zeroValue5
  t9 := Try.underlying9
  a9 := Try.isAgg9
  z9 := Try.sizeOf9
  v9 := Try.zeroValue9
  t26 := Try.underlying63
  a26 := Try.isAgg63
  z26 := Try.sizeOf63
  v26 := Try.zeroValue63
  t27 := Try.underlying63
  a27 := Try.isAgg63
  z27 := Try.sizeOf63
  v27 := Try.zeroValue63
  t29 := Try.underlying9
  a29 := Try.isAgg9
  z29 := Try.sizeOf9
  v29 := Try.zeroValue9
  t32 := Try.underlying106
  a32 := Try.isAgg106
  z32 := Try.sizeOf106
  v32 := Try.zeroValue106
  t35 := Try.underlying110
  a35 := Try.isAgg110
  z35 := Try.sizeOf110
  v35 := Try.zeroValue110
  t36 := Try.underlying111
  a36 := Try.isAgg111
  z36 := Try.sizeOf111
  v36 := Try.zeroValue111
  t41 := Try.underlying96
  a41 := Try.isAgg96
  z41 := Try.sizeOf96
  v41 := Try.zeroValue96
  t44 := Try.underlying118
  a44 := Try.isAgg118
  z44 := Try.sizeOf118
  v44 := Try.zeroValue118
  t46 := Try.underlying120
  a46 := Try.isAgg120
  z46 := Try.sizeOf120
  v46 := Try.zeroValue120
  t53 := Try.underlying121
  a53 := Try.isAgg121
  z53 := Try.sizeOf121
  v53 := Try.zeroValue121
  t57 := Try.underlying125
  a57 := Try.isAgg125
  z57 := Try.sizeOf125
  v57 := Try.zeroValue125
  t63 := Try.underlying127
  a63 := Try.isAgg127
  z63 := Try.sizeOf127
  v63 := Try.zeroValue127
  t64 := Try.underlying128
  a64 := Try.isAgg128
  z64 := Try.sizeOf128
  v64 := Try.zeroValue128 }
theorem lit0_R (w : World) : Kd.R Kd.string 9 (w.alloc (.cells #[] 9)) w.heap.size (fun _ => True) (.slice (some ⟨w.heap.size, 0, none⟩) 0 0) [] :=
  ⟨fun _ _ => trivial, [], ⟨rfl, .inr ⟨_, 0, #[], rfl, Nat.le_refl _, blk_new _ _, Nat.le_refl _, by simp [maxLen], rfl, rfl⟩⟩, Reps.none _ _⟩
set_option maxRecDepth 100000 in
theorem clone_calls (A : Option Addr) (c : Nat) (l : List ByteArray) (w : World) (hr : Kd.C Kd.string w A l.length l) (hc : l.length ≤ c) (hl : l.length ≤ 1000000) :
    Calls Try.prog 41 #[.slice A l.length c] w fun e w' => ∃ v, e = .returned v ∧ Kd.R Kd.string 9 w' w.heap.size (fun _ => True) v l ∧ Below w.heap.size w w' := by
  have hnil := fun (W : World) => Lib.run_eql_slice_nil (P := Try.prog) W 63 9 A l.length c 0 0 Try.underlying63
  cases A with
  | none =>
    have h0 : l = [] := by
      rcases Nat.eq_zero_or_pos l.length with h | h
      · exact List.length_eq_zero_iff.1 h
      · obtain ⟨ad, e, _⟩ := hr.2.2 h
        cases e
    subst h0
    have hnil := fun (W : World) => Lib.run_eql_slice_nil (P := Try.prog) W 63 9 none 0 c 0 0 Try.underlying63
    go_enter Try.func41, Try.ntmps41
    go_wp2
    go_ret
    exact ⟨_, rfl, Kd.R_nil _ _ _ _ _, Below.refl _ _⟩
  | some ad =>
    have HR := Aside0.mk hr
    clear hr
    go_enter Try.func41, Try.ntmps41
    go_wp2_with ((with_reducible refine gate_dst (N := 7) rfl ?_); refine Kd.R_append_row (w0 := w) Value.string ByteArray.empty w.heap.size rfl (.tmp 5) (.tmp 6) 63 9 (.string ⟨#[]⟩) 16 rfl Try.underlying63 info9 rfl (by decide) _ [] l _ _ _ (fun _ => True) rfl rfl (fun _ _ => trivial) (lit0_R w) (Kd.C_alloc HR.out _) (below_alloc (Below.refl _ _) _) (by simp) (by simp; omega) ?_; intro v1 w1 hR hB hg hat)
    obtain ⟨A1, c1, rfl⟩ := Kd.R_slice hR
    go_ret
    exact ⟨_, rfl, hR, hB⟩
theorem strs_data (l : List ByteArray) : encs Value.string l = (l.map fun s => s.data.toList).map encStr := by
  unfold encs
  rw [List.map_map]
  exact List.map_congr_left fun s _ => by simp
/-- rising -/
def risen (l : List ByteArray) : List ByteArray := ((l.map fun s => s.data.toList).mergeSort fun x y => decide (x ≤ y)).map asStr
theorem risen_length (l : List ByteArray) : (risen l).length = l.length := by simp [risen]
theorem risen_encs (l : List ByteArray) : encs Value.string (risen l) = ((l.map fun s => s.data.toList).mergeSort fun x y => decide (x ≤ y)).map encStr := by
  unfold encs risen
  rw [List.map_map]
  exact List.map_congr_left fun s _ => by simp [asStr]
theorem sort_calls (v : Value) (l : List ByteArray) (w : World) (base : Nat) (ok : Nat → Prop) (hR : Kd.R Kd.string 9 w base ok v l) (hl : l.length ≤ 1000000) :
    Calls Try.prog 42 #[v] w fun e w' => e = .returned (.tuple #[]) ∧ Kd.R Kd.string 9 w' base ok v (risen l) ∧ w.grownBy w' v.ownBlock := by
  have hok := hR.1
  have ho := Kd.own_of_R hR
  rw [strs_data] at ho
  rcases ho.2 with ⟨rfl, h0⟩ | ⟨g, cap, cur, rfl, hbase, hb, h1, h2, h3, h4⟩
  · have : l = [] := List.length_eq_zero_iff.1 h0
    subst this
    refine (show Calls Try.prog 42 _ _ _ from AnyM.slices_Sort_string_none lSort none 0 w).mono ?_
    rintro e w' ⟨rfl, rfl⟩
    exact ⟨rfl, by rw [show risen [] = [] by simp [risen]]; exact Kd.R_nil _ _ _ _ _, ⟨rfl, rfl, rfl, Nat.le_refl _, fun _ _ _ => rfl⟩⟩
  · have hg : g < w.heap.size := (Array.getElem?_eq_some_iff.1 hb).1
    have hH := holds_of_block (ss := l.map fun s => s.data.toList) hb (by simpa using h4)
    have hc := AnyM.slices_Sort_string lSort g 0 cap (l.map fun s => s.data.toList) w hH hg (by simp; omega)
    rw [List.length_map] at hc
    refine (show Calls Try.prog 42 _ _ _ from hc).mono ?_
    rintro e w' ⟨rfl, n, os, rfl⟩
    have hl2 : ((l.map fun s => s.data.toList).mergeSort fun x y => decide (x ≤ y)).length = (l.map fun s => s.data.toList).length := by simp
    have hown := ownsRow_sorted (n := n) (os := os) hl2 hbase hb (by simpa using h1) h2 h3
    rw [List.length_map, ← risen_encs] at hown
    refine ⟨rfl, Kd.R_of_own (by rw [risen_length]; exact hown) hok, grownBy_sorted _⟩
set_option maxRecDepth 100000 in
theorem risingM_calls (w : World) (base g : Nat) (F : Nat → Prop) (tb : List (Key × List Value)) (o : Option Nat) (h : Tab 15 83 66 w base g F tb o) (hl : tb.length ≤ 1000000) :
    Calls Try.prog 23 #[.pointer (some ⟨g, 0, none⟩)] w fun e w' => ∃ v, e = .returned v ∧ Kd.R Kd.string 9 w' w.heap.size (fun _ => True) v (risen (tb.map fun p => asStr p.1)) ∧ Below w.heap.size w w' := by
  obtain ⟨m, sn, st, hb, hg, hF, hm, hn, ht, hd, ho⟩ := h
  obtain ⟨An, cn, rfl⟩ := Kd.R_slice hn
  have hlN : (tb.map fun p => asStr p.1).length = tb.length := List.length_map _
  have hc1 : w.cell? ⟨g, 1, none⟩ = some (.slice An (tb.map fun p => asStr p.1).length cn) := (blk_cell hb 1).trans rfl
  obtain ⟨_, hcn, hC⟩ := Kd.R_reads' hn
  have HC := Aside0.mk hC
  obtain ⟨l, hls⟩ : ∃ l, l = tb.map fun p => asStr p.1 := ⟨_, rfl⟩
  rw [← hls] at hlN hc1 hcn HC ⊢
  have hll : l.length ≤ 1000000 := by omega
  clear hb hg hF hm hn ht hd hC hls hlN hl
  go_enter Try.func23, Try.ntmps23
  go_wp2_with fail
  refine (clone_calls _ _ l _ HC.out hcn hll).mono ?_
  rintro e w1 ⟨v, rfl, hR, hB⟩
  go_wp2_with fail
  refine (sort_calls v l _ _ _ hR hll).mono ?_
  rintro e w2 ⟨rfl, hR2, hg2⟩
  go_wp2
  go_ret
  exact ⟨v, rfl, hR2, pw_below_grown hB _ hB.size hg2 (fun k hk => Kd.R_base hR k hk)⟩
set_option maxRecDepth 100000 in
theorem risingK_calls (w : World) (base g : Nat) (F : Nat → Prop) (tb : List (Key × List Value)) (o : Option Nat) (h : Tab 4 86 91 w base g F tb o) (hl : tb.length ≤ 1000000) :
    Calls Try.prog 39 #[.pointer (some ⟨g, 0, none⟩)] w fun e w' => ∃ v, e = .returned v ∧ Kd.R Kd.string 9 w' w.heap.size (fun _ => True) v (risen (tb.map fun p => asStr p.1)) ∧ Below w.heap.size w w' := by
  obtain ⟨m, sn, st, hb, hg, hF, hm, hn, ht, hd, ho⟩ := h
  obtain ⟨An, cn, rfl⟩ := Kd.R_slice hn
  have hlN : (tb.map fun p => asStr p.1).length = tb.length := List.length_map _
  have hc1 : w.cell? ⟨g, 1, none⟩ = some (.slice An (tb.map fun p => asStr p.1).length cn) := (blk_cell hb 1).trans rfl
  obtain ⟨_, hcn, hC⟩ := Kd.R_reads' hn
  have HC := Aside0.mk hC
  obtain ⟨l, hls⟩ : ∃ l, l = tb.map fun p => asStr p.1 := ⟨_, rfl⟩
  rw [← hls] at hlN hc1 hcn HC ⊢
  have hll : l.length ≤ 1000000 := by omega
  clear hb hg hF hm hn ht hd hC hls hlN hl
  go_enter Try.func39, Try.ntmps39
  go_wp2_with fail
  refine (clone_calls _ _ l _ HC.out hcn hll).mono ?_
  rintro e w1 ⟨v, rfl, hR, hB⟩
  go_wp2_with fail
  refine (sort_calls v l _ _ _ hR hll).mono ?_
  rintro e w2 ⟨rfl, hR2, hg2⟩
  go_wp2
  go_ret
  exact ⟨v, rfl, hR2, pw_below_grown hB _ hB.size hg2 (fun k hk => Kd.R_base hR k hk)⟩
end Go.Proofs.Ytibkcnlcmempgaa.Res
end
section
namespace Go.Proofs.Ytibkcnlcmempgaa.Res
set_option linter.unusedVariables false
set_option linter.unusedSimpArgs false
open Go.RowKit Go.Proofs.Ytibkcnlcmempgaa.G Go.Proofs.YtibkcnlcmempgaaW.PrintWords Go.Proofs.YtibkcnlcmempgaaW.PrintLast Go.Proofs.YtibkcnlcmempgaaW.PrintMore Go.Proofs.Ytibkcnlcmempgaa.Raw
def fault (e : Int) (n : ByteArray) : List Value := [.int .i64 e, .string n]
theorem info26' : (Try.prog.info? 26).map (fun i => (i.zero, i.size, i.bytes)) = some (some (.agg #[.int .i64 0, .string ⟨#[]⟩]), 2, 24) := by kernel_rfl
theorem fault_one (e : Int) (n : ByteArray) : ∀ u ∈ fault e n, u.oneCell' = true := by
  intro u hu
  simp only [fault, List.mem_cons, List.not_mem_nil, or_false] at hu
  rcases hu with rfl | rfl <;> rfl
/-- a heap cell (block pc) that holds the faults so far; the blocks of K are as they were in w0 -/
def FOut (K : Nat → Prop) (w0 : World) (base pc : Nat) (W : World) (xs : List (List Value)) : Prop :=
  ∃ v, W.heap[pc]? = some (.cells #[v] 43 (0, 0)) ∧ (kRaw 2).R 26 W base (fun j => j ≠ pc ∧ ¬ K j) v xs ∧ (∀ j, K j → W.heap[j]? = w0.heap[j]?) ∧ Below base w0 W
theorem FOut.drewN {K : Nat → Prop} {w0 W : World} {base pc : Nat} {xs : List (List Value)} (h : FOut K w0 base pc W xs) (q : Nat) : FOut K w0 base pc (W.drewN q) xs := by
  obtain ⟨v, h1, h2, h3, h4⟩ := h
  exact ⟨v, h1, Kd.R_drewN h2 q, h3, pw_below_drewN h4 q⟩
/-- what is asked of 'wrong' -/
def PredName (g : Nat) (lb : Array Value) (p : ByteArray → Bool) (K : Nat → Prop) (w0 : World) (l : List ByteArray) : Prop :=
  ∀ (W : World) (n : ByteArray), n ∈ l → w0.heap.size ≤ W.heap.size → (∀ j, K j → W.heap[j]? = w0.heap[j]?) → Calls Try.prog g (#[.string n] ++ lb) W fun e w' => e = .returned (.bool (p n)) ∧ ∃ q, w' = W.drewN q
def Stop (p : Prop) : Prop := p
theorem stopHere {p : Prop} (h : Stop p) : p := h
set_option maxHeartbeats 4000000 in
set_option maxRecDepth 100000 in
theorem put_calls (K : Nat → Prop) (w0 : World) (base pc : Nat) (hK : ∀ j, K j → j < w0.heap.size ∧ j ≠ pc) (hb0 : base ≤ w0.heap.size) (hpc : base ≤ pc) (er : Int) (A : Option Addr) (c : Nat) (l : List ByteArray) (w : World) (xs : List (List Value)) (hO : FOut K w0 base pc w xs)
    (hr : ∀ W, w0.heap.size ≤ W.heap.size → (∀ j, K j → W.heap[j]? = w0.heap[j]?) → Kd.C Kd.string W A l.length l) (hx : xs.length + l.length ≤ 1000000) (g : Nat) (lb : Array Value) (p : ByteArray → Bool) (hp : PredName g lb p K w0 l) (eg : ∀ args w, (callFunc g args).run Try.prog w = .ok (.enter g args) w) :
    Calls Try.prog 35 #[.int .i64 er, .slice A l.length c, .func (.func g) #[] lb, .pointer (some ⟨pc, 0, none⟩)] w fun e w' => e = .returned (.tuple #[]) ∧ FOut K w0 base pc w' (xs ++ (l.filter p).map (fault er)) := by
  have HR := Aside0.mk hr
  have HP := Aside0.mk hp
  have HK := Aside0.mk hK
  have HO := Aside0.mk hO
  have hll : l.length ≤ 1000000 := by omega
  have HX := Aside0.mk hx
  have HBB := Aside0.mk (And.intro hb0 hpc)
  clear hr hp hK hO hx hb0 hpc
  go_enter Try.func35, Try.ntmps35
  go_wp2
  go_loopg [11] l.length (fun kq v11 wr => ∃ k : Nat, k + kq = l.length ∧ v11 = .int .i64 (k : Int) ∧ Aside0 (FOut K w0 base pc wr (xs ++ ((l.take k).filter p).map (fault er))))
  case atStart => exact ⟨0, by omega, rfl, ⟨by simpa using HO.out⟩⟩
  case round =>
    clear HO
    obtain ⟨k, hk, rfl, HO⟩ := hrel
    cases gk with
    | zero =>
      have hltb : decide ((k : Int) < (l.length : Int)) = false := by simp; omega
      have hke : k = l.length := by omega
      subst hke
      go_wp2
      go_end0
      refine ⟨rfl, ?_⟩
      have h := HO.out
      rw [List.take_length] at h
      exact h
    | succ gk =>
      have hltb : decide ((k : Int) < (l.length : Int)) = true := by simp; omega
      obtain ⟨v, hpcb, hRv, hKs, hBw⟩ := HO.out
      have hsw : w0.heap.size ≤ wr.heap.size := hBw.size
      obtain ⟨ad, rfl, y0⟩ := Kd.at_string (HR.out wr hsw hKs) (k : Int) (by omega) (by omega)
      rw [Int.toNat_natCast] at y0
      have hel : l[k]? = some (rdOf ByteArray.empty l (k : Int)) := by
        unfold rdOf
        rw [Int.toNat_natCast, List.getD_eq_getElem?_getD, List.getElem?_eq_getElem (by omega)]
        rfl
      generalize rdOf ByteArray.empty l (k : Int) = n at y0 hel
      have htk : (l.take (k + 1)).filter p = (l.take k).filter p ++ if p n then [n] else [] := by
        rw [List.take_add_one, hel, List.filter_append]
        simp [List.filter_cons]
      have HTK := Aside0.mk htk
      have hcall := HP.out wr n (List.mem_of_getElem? hel) hsw hKs
      have hlf : ((l.take k).filter p).length ≤ k := Nat.le_trans (List.length_filter_le _ _) (List.length_take_le _ _)
      have HLF := Aside0.mk hlf
      have HBw := Aside0.mk hBw
      have HKs := Aside0.mk hKs
      have HPB := Aside0.mk hpcb
      have HRv := Aside0.mk hRv
      clear htk hel hlf hBw hKs hpcb hRv
      cases hq : p n with
      | false =>
        rw [hq] at hcall
        have HC := Aside0.mk hcall
        have HQ := Aside0.mk hq
        clear hcall hq
        go_wp2_with (go_at_fn g; refine HC.out.mono ?_; rintro e w' ⟨rfl, q, rfl⟩)
        go_roundg gk
        case measure => omega
        case rel => exact ⟨k + 1, by omega, by go_num, ⟨by rw [HTK.out, HQ.out]; simp only [Bool.false_eq_true, if_false, List.append_nil]; exact HO.out.drewN q⟩⟩
      | true =>
        rw [hq] at hcall
        have HC := Aside0.mk hcall
        have HQ := Aside0.mk hq
        clear hcall hq
        go_wp2_with (first
          | (go_at_fn g; refine HC.out.mono ?_; rintro e w' ⟨rfl, q, rfl⟩; have d0 : (wr.drewN q).cell? ⟨pc, 0, none⟩ = some v := (blk_cell HPB.out 0).trans rfl; have d1 : (wr.drewN q).frozen? ⟨pc, 0, none⟩ = false := blk_frozen HPB.out 0)
          | ((with_reducible refine gate_dst (N := 23) rfl ?_); refine stopHere ?stop))
        case stop =>
          unfold Stop
          refine Kd.R_append (kRaw 2) (w0 := w0) base rfl (.tmp 18) (.tmp 22) 43 26 (.agg #[.int .i64 0, .string ⟨#[]⟩]) 24 rfl Try.underlying43 info26' rfl (by decide) (by decide) v _ (fault er n) [.int .i64 er, .string n] (fun j => j ≠ pc ∧ ¬ K j) (fun _ => False) rfl rfl ⟨rfl, rfl, fault_one er n⟩ (fun _ hk => hk.elim) ?aF (Kd.R_drewN HRv.out q) (pw_below_drewN HBw.out q) ?aS ?aL ?_
          case aF => intro j hj; exact ⟨fun e => by subst e; have := (Array.getElem?_eq_some_iff.1 HPB.out).1; exact absurd hj (by simp; omega), fun e => by have := (HK.out j e).1; have := HBw.out.size; simp at hj; omega⟩
          case aS => have := HBw.out.size; have := HBB.out.1; simp; omega
          case aL => rw [List.length_append, List.length_map]; have := HLF.out; have := HX.out; omega
          intro v1 w2 hR2 hB2 hg2 hat2
          obtain ⟨A1, k1, rfl⟩ := Kd.R_slice hR2
          have hl2 : (xs ++ List.map (fault er) (List.filter p (List.take k l)) ++ [fault er n]).length = xs.length + ((List.filter p (List.take k l)).length + 1) := by simp [Nat.add_assoc]
          rw [hl2] at hR2
          have hne : some pc ≠ v.ownBlock := fun e => (HRv.out.1 pc e.symm).1 rfl
          have hpc2 : w2.heap[pc]? = some (.cells #[v] 43 (0, 0)) := blk_grown (w := wr.drewN q) HPB.out hg2 hne
          have hks2 : ∀ j, K j → w2.heap[j]? = w0.heap[j]? := fun j hj => (hg2.block j (by have := (HK.out j hj).1; have := HBw.out.size; show j < wr.heap.size; omega) (fun e => (HRv.out.1 j e.symm).2 hj)).trans (HKs.out j hj)
          have HP2 := Aside0.mk hpc2
          have HK2 := Aside0.mk hks2
          have HR2 := Aside0.mk hR2
          have HB2 := Aside0.mk hB2
          clear hpc2 hks2 hR2 hB2 hg2 hat2 hne d0 d1
          have d0 : w2.cell? ⟨pc, 0, none⟩ = some v := (blk_cell HP2.out 0).trans rfl
          have d1 : w2.frozen? ⟨pc, 0, none⟩ = false := blk_frozen HP2.out 0
          go_wp2
          go_roundg gk
          case measure => omega
          case rel =>
            refine ⟨k + 1, by omega, by go_num, ⟨_, blk_put HP2.out 0 _ rfl, ?_, ?_, ?_⟩⟩
            · rw [HTK.out, HQ.out, if_pos rfl, List.map_append, ← List.append_assoc]
              exact Kd.R_step HR2.out (fun j hj _ => RowKit.Below.heap_setCell _ _ _ _ hj.1)
            · exact fun j hj => (RowKit.Below.heap_setCell _ _ _ _ (HK.out j hj).2).trans (HK2.out j hj)
            · exact HB2.out.trans ⟨rfl, rfl, rfl, by simp [World.setCell], fun j hj => RowKit.Below.heap_setCell _ _ _ _ (fun e => by have := HBB.out.2; subst e; exact absurd hj (Nat.not_lt.2 this))⟩
end Go.Proofs.Ytibkcnlcmempgaa.Res
end
section
namespace Go.Proofs.Ytibkcnlcmempgaa.Res
set_option linter.unusedVariables false
set_option linter.unusedSimpArgs false
open Go.RowKit Go.Proofs.Ytibkcnlcmempgaa.G Go.Proofs.YtibkcnlcmempgaaW.PrintWords Go.Proofs.YtibkcnlcmempgaaW.PrintLast Go.Proofs.YtibkcnlcmempgaaW.PrintMore Go.Proofs.Ytibkcnlcmempgaa.Raw
/-- what a table says of a name -/
def lk {α : Type} (z : α) (tb : List (Key × α)) (n : ByteArray) : α := ((tb.find? fun p => p.1 == n.data.toList).map (·.2)).getD z
/-- a table's names, rising -/
def rise {α : Type} (tb : List (Key × α)) : List ByteArray := risen (tb.map fun p => asStr p.1)
theorem rise_mem {α : Type} {tb : List (Key × α)} {n : ByteArray} (h : n ∈ rise tb) : n.data.toList ∈ tb.map (·.1) := by
  unfold rise risen at h
  obtain ⟨k, hk, rfl⟩ := List.mem_map.1 h
  rw [List.mem_mergeSort, List.map_map] at hk
  obtain ⟨p, hp, rfl⟩ := List.mem_map.1 hk
  simp only [Function.comp, asStr_data]
  exact List.mem_map.2 ⟨p, hp, rfl⟩
theorem lk_at {α : Type} (z : α) {tb : List (Key × α)} {n : ByteArray} (h : n.data.toList ∈ tb.map (·.1)) : ∃ i : Nat, tb[i]? = some (n.data.toList, lk z tb n) := by
  obtain ⟨p, hp, hk⟩ := List.mem_map.1 h
  cases hf : tb.find? fun p => p.1 == n.data.toList with
  | none =>
    have := List.find?_eq_none.1 hf p hp
    simp [hk] at this
  | some q =>
    have hq := List.find?_some hf
    obtain ⟨i, hi, e⟩ := List.getElem_of_mem (List.mem_of_find?_eq_some hf)
    refine ⟨i, ?_⟩
    rw [List.getElem?_eq_getElem hi, e]
    have hqk : q.1 = n.data.toList := by simpa using hq
    unfold lk
    rw [hf, ← hqk]
    rfl
theorem rise_len {α : Type} (tb : List (Key × α)) : (rise tb).length = tb.length := by simp [rise, risen_length]
theorem rise_enc {α : Type} (enc : α → List Value) (tb : List (Key × α)) : risen ((encT enc tb).map fun p => asStr p.1) = rise tb := by
  unfold rise encT
  rw [List.map_map]
  rfl
def twice (m : Mean) : Bool := decide (1 < m.strong)
def lacks (m : Mean) : Bool := (m.strong + m.weak == 0) && decide (0 < m.needed)
def mixed (m : Mean) : Bool := m.tls && m.plain
def wrongs (e : Int) {α : Type} (z : α) (p : α → Bool) (tb : List (Key × α)) : List (List Value) := ((rise tb).filter fun n => p (lk z tb n)).map (fault e)
def faultsF (tm : List (Key × Mean)) (tk : List (Key × Knd)) : List (List Value) :=
  wrongs 180 zM twice tm ++ wrongs 181 zM lacks tm ++ wrongs 182 zM mixed tm ++ wrongs 182 zK Knd.clash tk
theorem wrongs_len (e : Int) {α : Type} (z : α) (p : α → Bool) (tb : List (Key × α)) : (wrongs e z p tb).length ≤ tb.length := by
  unfold wrongs
  rw [List.length_map]
  have := List.length_filter_le (fun n => p (lk z tb n)) (rise tb)
  rw [rise_len] at this
  exact this
def KeysLe {α : Type} (tb : List (Key × α)) : Prop := ∀ k ∈ tb.map (·.1), k.length ≤ 255
theorem key_size {n : ByteArray} {α : Type} {tb : List (Key × α)} (h : KeysLe tb) (hn : n ∈ rise tb) : n.size ≤ 255 := by
  have := h _ (rise_mem hn)
  rwa [Array.length_toList] at this
theorem FOut.round {K : Nat → Prop} {w0 W W' : World} {base pc : Nat} {xs : List (List Value)} (h : FOut K w0 base pc W xs) (hb : Below W.heap.size W W') : FOut (fun j => K j ∨ (W.heap.size ≤ j ∧ j < W'.heap.size)) W' base pc W' xs := by
  obtain ⟨v, h1, h2, h3, h4⟩ := h
  refine ⟨v, (hb.block pc (blk_lt h1)).trans h1, ?_, fun _ _ => rfl, Below.refl _ _⟩
  have h5 := Kd.R_mono (Kd.R_bound h2) (ok' := fun j => (j ≠ pc ∧ ¬(K j ∨ (W.heap.size ≤ j ∧ j < W'.heap.size)))) (fun k hk => ⟨hk.1.1, fun e => e.elim hk.1.2 (fun e => by have := hk.2.2.1; omega)⟩)
  exact Kd.R_below h5 hb
theorem names_kept {w w0 W : World} {K : Nat → Prop} {A : Option Addr} {n c : Nat} {l : List ByteArray} (h : Kd.R Kd.string 9 w0 w.heap.size (fun _ => True) (.slice A n c) l) (hK : ∀ j, w.heap.size ≤ j → j < w0.heap.size → K j) (hk : ∀ j, K j → W.heap[j]? = w0.heap[j]?) : Kd.C Kd.string W A l.length l := by
  have h5 := Kd.R_mono (Kd.R_bound h) (ok' := fun j => w.heap.size ≤ j ∧ j < w0.heap.size) (fun k hk => ⟨hk.2.1, hk.2.2.1⟩)
  exact (Kd.R_reads' (Kd.R_step h5 (fun k h1 _ => hk k (hK k h1.1 h1.2)))).2.2
section
variable {W w : World} {base g1 g2 pb : Nat} {F : Nat → Prop} {o : Option Nat}
theorem pred_twice {tm : List (Key × Mean)} (K : Nat → Prop) (w0 : World) (hT : ∀ W, w0.heap.size ≤ W.heap.size → (∀ j, K j → W.heap[j]? = w0.heap[j]?) → TabM W base g1 F (encT encM tm) o ∧ boxP W pb g1 58) (hk : KeysLe tm) (hs : Small 1000000 tm) :
    PredName 36 #[.pointer (some ⟨pb, 0, none⟩)] (fun n => twice (lk zM tm n)) K w0 (rise tm) := by
  intro W n hn h1 h2
  obtain ⟨i, hi⟩ := lk_at zM (rise_mem hn)
  exact twice_calls (hT W h1 h2).1 pb (hT W h1 h2).2 n (key_size hk hn) hi hs.1
theorem pred_lacks {tm : List (Key × Mean)} (K : Nat → Prop) (w0 : World) (hT : ∀ W, w0.heap.size ≤ W.heap.size → (∀ j, K j → W.heap[j]? = w0.heap[j]?) → TabM W base g1 F (encT encM tm) o ∧ boxP W pb g1 58) (hk : KeysLe tm) (hs : Small 1000000 tm) :
    PredName 37 #[.pointer (some ⟨pb, 0, none⟩)] (fun n => lacks (lk zM tm n)) K w0 (rise tm) := by
  intro W n hn h1 h2
  obtain ⟨i, hi⟩ := lk_at zM (rise_mem hn)
  have hb := hs.2.2 _ (List.mem_of_getElem? hi)
  exact lacks_calls (hT W h1 h2).1 pb (hT W h1 h2).2 n (key_size hk hn) hi hs.1 ⟨hb.1.1, Int.le_trans hb.1.2 (by decide)⟩ ⟨hb.2.1.1, Int.le_trans hb.2.1.2 (by decide)⟩
theorem pred_mixed {tm : List (Key × Mean)} (K : Nat → Prop) (w0 : World) (hT : ∀ W, w0.heap.size ≤ W.heap.size → (∀ j, K j → W.heap[j]? = w0.heap[j]?) → TabM W base g1 F (encT encM tm) o ∧ boxP W pb g1 58) (hk : KeysLe tm) (hs : Small 1000000 tm) :
    PredName 38 #[.pointer (some ⟨pb, 0, none⟩)] (fun n => mixed (lk zM tm n)) K w0 (rise tm) := by
  intro W n hn h1 h2
  obtain ⟨i, hi⟩ := lk_at zM (rise_mem hn)
  exact mixed_calls (hT W h1 h2).1 pb (hT W h1 h2).2 n (key_size hk hn) hi hs.1
theorem pred_clash {tk : List (Key × Knd)} (K : Nat → Prop) (w0 : World) (hT : ∀ W, w0.heap.size ≤ W.heap.size → (∀ j, K j → W.heap[j]? = w0.heap[j]?) → TabK W base g2 F (encT encK tk) o ∧ boxP W pb g2 59) (hk : KeysLe tk) (hs : SmallK 1000000 tk) :
    PredName 40 #[.pointer (some ⟨pb, 0, none⟩)] (fun n => Knd.clash (lk zK tk n)) K w0 (rise tk) := by
  intro W n hn h1 h2
  obtain ⟨i, hi⟩ := lk_at zK (rise_mem hn)
  exact clash_calls (hT W h1 h2).1 pb (hT W h1 h2).2 n (key_size hk hn) hi hs.1
end
set_option maxHeartbeats 4000000 in
set_option maxRecDepth 100000 in
theorem faults_calls (keep : Nat → Prop) (base g1 g2 : Nat) (wI w : World) (tm : List (Key × Mean)) (tk : List (Key × Knd)) (h : GI keep base g1 g2 wI w tm tk) (hsm : Small 32000 tm) (hsk : SmallK 1024 tk) (hkm : KeysLe tm) (hkk : KeysLe tk) :
    Calls Try.prog 22 #[.pointer (some ⟨g1, 0, none⟩), .pointer (some ⟨g2, 0, none⟩)] w fun e w' => ∃ v, e = .returned v ∧ (kRaw 2).R 26 w' w.heap.size (fun _ => True) v (faultsF tm tk) ∧ Below w.heap.size w w' := by
  obtain ⟨F1, F2, o1, o2, hT1, hT2, _, _, _⟩ := h
  have hf1 : ∀ j, F1 j → j < w.heap.size := by
    obtain ⟨m0, sn, st, hb, hg, hF, _⟩ := hT1
    exact fun j hj => (hF j hj).2
  have hf2 : ∀ j, F2 j → j < w.heap.size := by
    obtain ⟨m0, sn, st, hb, hg, hF, _⟩ := hT2
    exact fun j hj => (hF j hj).2
  have HT1 := Aside0.mk hT1
  have HT2 := Aside0.mk hT2
  have HS := Aside0.mk (And.intro hsm hsk)
  have HKL := Aside0.mk (And.intro hkm hkk)
  have HF := Aside0.mk (And.intro hf1 hf2)
  clear hT1 hT2 hsm hsk hkm hkk hf1 hf2
  go_enter Try.func22, Try.ntmps22
  go_wp2_with fail
  obtain ⟨w3, hw3⟩ : ∃ w3, w3 = (((w.alloc (Obj.cells #[Value.pointer (some { block := g1, off := 0 })] 58)).alloc (Obj.cells #[Value.pointer (some { block := g2, off := 0 })] 59)).alloc (Obj.cells #[Value.slice none 0 0] 43)) := ⟨_, rfl⟩
  have hB3 : Below w.heap.size w w3 := by rw [hw3]; exact below_alloc (below_alloc (below_alloc (Below.refl _ _) _) _) _
  have hz3 : w3.heap.size = w.heap.size + 3 := by rw [hw3]; simp
  have hp0 : boxP w3 w.heap.size g1 58 := by rw [hw3]; exact blk_alloc (blk_alloc (blk_new w _) _) _
  have hp1 : boxP w3 (w.heap.size + 1) g2 59 := by
    rw [hw3]
    refine blk_alloc ?_ _
    have := blk_new (w.alloc (Obj.cells #[Value.pointer (some { block := g1, off := 0 })] 58)) (Obj.cells #[Value.pointer (some { block := g2, off := 0 })] 59)
    simpa [boxP] using this
  have hp2 : w3.heap[w.heap.size + 1 + 1]? = some (.cells #[.slice none 0 0] 43 (0, 0)) := by
    rw [hw3]
    have := blk_new ((w.alloc (Obj.cells #[Value.pointer (some { block := g1, off := 0 })] 58)).alloc (Obj.cells #[Value.pointer (some { block := g2, off := 0 })] 59)) (Obj.cells #[Value.slice none 0 0] 43)
    simpa using this
  rw [← hw3]
  clear hw3
  have hle1 := HS.out.1.1
  have hle2 := HS.out.2.1
  have hll1 : (rise tm).length ≤ 32000 := by rw [rise_len]; exact hle1
  have hll2 : (rise tk).length ≤ 1024 := by rw [rise_len]; exact hle2
  refine (risingM_calls w3 base g1 F1 _ o1 (HT1.out.below hB3) (by rw [encT, List.length_map]; omega)).mono ?_
  rintro e w4 ⟨v, rfl, hN, hB4⟩
  rw [rise_enc] at hN
  obtain ⟨A, c, rfl⟩ := Kd.R_slice hN
  have hB34 : Below w.heap.size w w4 := below_then hB3 hB3.size hB4
  have hs4 : w3.heap.size ≤ w4.heap.size := hB4.size
  obtain ⟨K, hK⟩ : ∃ K : Nat → Prop, K = fun j => j < w4.heap.size ∧ j ≠ w.heap.size + 1 + 1 := ⟨_, rfl⟩
  have hTM : ∀ W, w4.heap.size ≤ W.heap.size → (∀ j, K j → W.heap[j]? = w4.heap[j]?) → TabM W base g1 F1 (encT encM tm) o1 ∧ boxP W w.heap.size g1 58 := by
    intro W h1 h2
    refine ⟨HT1.out.kept (Nat.le_trans hB34.size h1) (fun j hj => ?_), ?_⟩
    · have := HF.out.1 j hj
      exact (h2 j (by rw [hK]; exact ⟨by omega, by omega⟩)).trans (hB34.block j this)
    · exact (h2 _ (by rw [hK]; exact ⟨by omega, by omega⟩)).trans ((hB4.block _ (by omega)).trans hp0)
  have hTK : ∀ W, w4.heap.size ≤ W.heap.size → (∀ j, K j → W.heap[j]? = w4.heap[j]?) → TabK W base g2 F2 (encT encK tk) o2 ∧ boxP W (w.heap.size + 1) g2 59 := by
    intro W h1 h2
    refine ⟨HT2.out.kept (Nat.le_trans hB34.size h1) (fun j hj => ?_), ?_⟩
    · have := HF.out.2 j hj
      exact (h2 j (by rw [hK]; exact ⟨by omega, by omega⟩)).trans (hB34.block j this)
    · exact (h2 _ (by rw [hK]; exact ⟨by omega, by omega⟩)).trans ((hB4.block _ (by omega)).trans hp1)
  have hNR : ∀ W, w4.heap.size ≤ W.heap.size → (∀ j, K j → W.heap[j]? = w4.heap[j]?) → Kd.C Kd.string W A (rise tm).length (rise tm) := fun W h1 h2 =>
    names_kept hN (fun j a b => by rw [hK]; exact ⟨b, by omega⟩) h2
  have hKb : ∀ j, K j → j < w4.heap.size ∧ j ≠ w.heap.size + 1 + 1 := fun j hj => by rw [hK] at hj; exact hj
  have hO : FOut K w4 w.heap.size (w.heap.size + 1 + 1) w4 [] := ⟨_, (hB4.block _ (by omega)).trans hp2, Kd.R_nil _ _ _ _ _, fun _ _ => rfl, Below.refl _ _⟩
  have HTM := Aside0.mk hTM
  have HTK := Aside0.mk hTK
  have HNR := Aside0.mk hNR
  have HKb := Aside0.mk hKb
  have HO := Aside0.mk hO
  have HB34 := Aside0.mk hB34
  have HZ := Aside0.mk (And.intro hz3 hs4)
  have hs1 : Small 1000000 tm := HS.out.1.mono (by decide)
  have hs2 : SmallK 1000000 tk := ⟨by omega, HS.out.2.2⟩
  have HS1 := Aside0.mk (And.intro hs1 hs2)
  have hw1 := wrongs_len 180 zM twice tm
  have hw2 := wrongs_len 181 zM lacks tm
  have hw3 := wrongs_len 182 zM mixed tm
  have HW := Aside0.mk (And.intro hw1 (And.intro hw2 hw3))
  have HLE := Aside0.mk (And.intro hle1 (And.intro hle2 (And.intro hll1 hll2)))
  clear hTM hTK hNR hKb hO hB34 hz3 hs4 hs1 hs2 hw1 hw2 hw3 hle1 hle2 hll1 hll2 hN hB4 hB3 hp0 hp1 hp2 hK
  go_wp2_with fail
  refine (put_calls K w4 w.heap.size (w.heap.size + 1 + 1) HKb.out HB34.out.size (by omega) 180 A c (rise tm) w4 [] HO.out HNR.out (by have := HLE.out; simp; omega) 36 #[.pointer (some ⟨w.heap.size, 0, none⟩)] (fun n => twice (lk zM tm n)) (pred_twice K w4 HTM.out HKL.out.1 HS1.out.1) (enters_of Try.func36 (by kernel_rfl) rfl)).mono ?_
  rintro e w5 ⟨rfl, h5⟩
  rw [List.nil_append] at h5
  have HO5 : Aside0 (FOut K w4 w.heap.size (w.heap.size + 1 + 1) w5 (wrongs 180 zM twice tm)) := ⟨h5⟩
  clear h5
  go_wp2_with fail
  refine (put_calls K w4 w.heap.size (w.heap.size + 1 + 1) HKb.out HB34.out.size (by omega) 181 A c (rise tm) w5 _ HO5.out HNR.out (by have := HLE.out; have := HW.out; omega) 37 #[.pointer (some ⟨w.heap.size, 0, none⟩)] (fun n => lacks (lk zM tm n)) (pred_lacks K w4 HTM.out HKL.out.1 HS1.out.1) (enters_of Try.func37 (by kernel_rfl) rfl)).mono ?_
  rintro e w6 ⟨rfl, h6⟩
  have HO6 : Aside0 (FOut K w4 w.heap.size (w.heap.size + 1 + 1) w6 (wrongs 180 zM twice tm ++ wrongs 181 zM lacks tm)) := ⟨h6⟩
  clear h6
  go_wp2_with fail
  refine (put_calls K w4 w.heap.size (w.heap.size + 1 + 1) HKb.out HB34.out.size (by omega) 182 A c (rise tm) w6 _ HO6.out HNR.out (by rw [List.length_append]; have := HLE.out; have := HW.out; omega) 38 #[.pointer (some ⟨w.heap.size, 0, none⟩)] (fun n => mixed (lk zM tm n)) (pred_mixed K w4 HTM.out HKL.out.1 HS1.out.1) (enters_of Try.func38 (by kernel_rfl) rfl)).mono ?_
  rintro e w7 ⟨rfl, h7⟩
  have HO7 : Aside0 (FOut K w4 w.heap.size (w.heap.size + 1 + 1) w7 (wrongs 180 zM twice tm ++ wrongs 181 zM lacks tm ++ wrongs 182 zM mixed tm)) := ⟨h7⟩
  clear h7
  have p1 : w7.cell? ⟨w.heap.size + 1, 0, none⟩ = some (.pointer (some ⟨g2, 0, none⟩)) := by
    obtain ⟨v, h1, h2, h3, h4⟩ := HO7.out
    exact (blk_cell (HTK.out w7 h4.size h3).2 0).trans rfl
  go_wp2_with fail
  obtain ⟨v7, hc7, hR7, hK7, hB7⟩ := HO7.out
  obtain ⟨hT7, hP7⟩ := HTK.out w7 hB7.size hK7
  have hw7 : w4.heap.size ≤ w7.heap.size := hB7.size
  refine (risingK_calls w7 base g2 F2 _ o2 hT7 (by have := HLE.out; rw [encT, List.length_map]; omega)).mono ?_
  rintro e w8 ⟨v, rfl, hN, hB8⟩
  rw [rise_enc] at hN
  obtain ⟨A2, c2, rfl⟩ := Kd.R_slice hN
  have h8 := HO7.out.round hB8
  have hs8 : w7.heap.size ≤ w8.heap.size := hB8.size
  obtain ⟨K2, hK2⟩ : ∃ K2 : Nat → Prop, K2 = fun j => K j ∨ (w7.heap.size ≤ j ∧ j < w8.heap.size) := ⟨_, rfl⟩
  rw [← hK2] at h8
  have hTK2 : ∀ W, w8.heap.size ≤ W.heap.size → (∀ j, K2 j → W.heap[j]? = w8.heap[j]?) → TabK W base g2 F2 (encT encK tk) o2 ∧ boxP W (w.heap.size + 1) g2 59 := by
    intro W h1 h2
    refine HTK.out W (by omega) (fun j hj => ?_)
    have hj4 := (HKb.out j hj).1
    exact (h2 j (by rw [hK2]; exact .inl hj)).trans ((hB8.block j (by omega)).trans (hK7 j hj))
  have hNR2 : ∀ W, w8.heap.size ≤ W.heap.size → (∀ j, K2 j → W.heap[j]? = w8.heap[j]?) → Kd.C Kd.string W A2 (rise tk).length (rise tk) := fun W h1 h2 =>
    names_kept hN (fun j a b => by rw [hK2]; exact .inr ⟨a, b⟩) h2
  have hpc4 : w.heap.size + 1 + 1 < w4.heap.size := by have := HZ.out; omega
  have hKb2 : ∀ j, K2 j → j < w8.heap.size ∧ j ≠ w.heap.size + 1 + 1 := fun j hj => by
    rw [hK2] at hj
    rcases hj with hj | hj
    · have := HKb.out j hj; exact ⟨by omega, this.2⟩
    · exact ⟨hj.2, by omega⟩
  have hb48 : Below w.heap.size w w8 := (HB34.out.trans hB7).trans ⟨hB8.os, hB8.tape, hB8.output, hB8.size, fun i hi => hB8.block i (by omega)⟩
  have HTK2 := Aside0.mk hTK2
  have HNR2 := Aside0.mk hNR2
  have HKb2 := Aside0.mk hKb2
  have HO8 := Aside0.mk h8
  have HB8 := Aside0.mk hb48
  clear hTK2 hNR2 hKb2 h8 hb48 hpc4 hN hB8 hs8 hK2 hw7 hT7 hP7 hc7 hR7 hK7 hB7 p1
  go_wp2_with fail
  refine (put_calls K2 w8 w.heap.size (w.heap.size + 1 + 1) HKb2.out HB8.out.size (by omega) 182 A2 c2 (rise tk) w8 _ HO8.out HNR2.out (by rw [List.length_append, List.length_append]; have := HLE.out; have := HW.out; omega) 40 #[.pointer (some ⟨w.heap.size + 1, 0, none⟩)] (fun n => Knd.clash (lk zK tk n)) (pred_clash K2 w8 HTK2.out HKL.out.2 HS1.out.2) (enters_of Try.func40 (by kernel_rfl) rfl)).mono ?_
  rintro e w9 ⟨rfl, h9⟩
  obtain ⟨v9, hc9, hR9, hK9, hB9⟩ := h9
  have d9 : w9.cell? ⟨w.heap.size + 1 + 1, 0, none⟩ = some v9 := (blk_cell hc9 0).trans rfl
  have HR9 := Aside0.mk (Kd.R_mono hR9 (ok' := fun _ => True) (fun _ _ => trivial))
  have HB9 := Aside0.mk (HB8.out.trans hB9)
  clear hc9 hR9 hK9 hB9
  go_wp2
  go_ret
  exact ⟨v9, rfl, HR9.out, HB9.out⟩
end Go.Proofs.Ytibkcnlcmempgaa.Res
end
