/- Lemmas and contracts, one text behind the other: what the row of this claim needs; no conditions beyond those that each theorem names. -/
import Derived.Test.YtibkcnlcmempgaaRows
import Derived.ChangeArms
import Derived.DataReads
import Derived.SizedLaws
import Derived.Test.YtibkcnlcmempgaaVJ6
section
namespace Go.Proofs.Ytibkcnlcmempgaa.Stmt
open Go.RowKit Go.Proofs.Ytibkcnlcmempgaa.G Go.Proofs.YtibkcnlcmempgaaW.PrintWords
set_option linter.unusedVariables false
def wf146 (x : S146) : Prop := ((Lit.int .i64 x.f0).wf = true) ∧ ((Lit.int .i64 x.f1).wf = true) ∧ (x.f2.size ≤ 140737488351232) ∧ ((Lit.int .i64 x.f3).wf = true)
def wt146 (x : S146) : Nat := (1 + (1 + ((x.f2.size + 1) + (1)))) + 1
def wf72 (x : S72) : Prop := (x.f0.size ≤ 140737488351232) ∧ ((Lit.int .i64 x.f1).wf = true) ∧ ((Lit.int .i64 x.f2).wf = true) ∧ ((Lit.int .i64 x.f3).wf = true) ∧ (x.f4.length * 1 ≤ 140737488351232 ∧ x.f4.length ≤ 9223372036854775807 ∧ ∀ y1 ∈ x.f4, (Lit.int .u8 y1).wf = true) ∧ ((Lit.int .i64 x.f5).wf = true) ∧ (x.f6.length * 40 ≤ 140737488351232 ∧ x.f6.length ≤ 9223372036854775807 ∧ ∀ y1 ∈ x.f6, wf146 y1)
def wt72 (x : S72) : Nat := ((x.f0.size + 1) + (1 + (1 + (1 + (((x.f4.map (fun y => 1)).sum + 1) + (1 + (((x.f6.map wt146).sum + 1)))))))) + 1
def wf38 (x : S38) : Prop := (x.f0.size ≤ 140737488351232) ∧ (x.f1.size ≤ 140737488351232) ∧ ((Lit.int .i64 x.f2).wf = true) ∧ ((Lit.int .i64 x.f3).wf = true) ∧ ((Lit.int .i64 x.f4).wf = true) ∧ ((Lit.int .i64 x.f5).wf = true)
def wt38 (x : S38) : Nat := ((x.f0.size + 1) + ((x.f1.size + 1) + (1 + (1 + (1 + (1)))))) + 1
def wf36 (x : S36) : Prop := (x.f0.length * 96 ≤ 140737488351232 ∧ x.f0.length ≤ 9223372036854775807 ∧ ∀ y1 ∈ x.f0, wf72 y1) ∧ (x.f1.length * 64 ≤ 140737488351232 ∧ x.f1.length ≤ 9223372036854775807 ∧ ∀ y1 ∈ x.f1, wf38 y1)
def wt36 (x : S36) : Nat := (((x.f0.map wt72).sum + 1) + (((x.f1.map wt38).sum + 1))) + 1
def ResolveJust : Prop := ∀ (l0 : List (S36)), (l0.length * 48 ≤ 140737488351232 ∧ l0.length ≤ 9223372036854775807 ∧ ∀ y1 ∈ l0, wf36 y1) → ∃ k, G.gangwaylaw18_ResolveJust.f k l0 = some true
end Go.Proofs.Ytibkcnlcmempgaa.Stmt
end
section
namespace Go.Proofs.Ytibkcnlcmempgaa.Res
set_option linter.unusedVariables false
set_option linter.unusedSimpArgs false
open Go.RowKit Go.Proofs.Ytibkcnlcmempgaa.G Go.Proofs.YtibkcnlcmempgaaW.PrintWords
abbrev Ev := Nat × Nat × S38
def symOf (l : List S36) (i j : Nat) : S38 := rd_T38 (rd_T36 l (i : Int)).f1 (j : Int)
/-- all symbols, in the order of their files -/
def evs (l : List S36) : List Ev := (List.range l.length).flatMap fun (i : Nat) => (List.range (rd_T36 l (i : Int)).f1.length).map fun (j : Nat) => (i, j, symOf l i j)
def stepE (tb : List (Key × Mean)) (e : Ev) : List (Key × Mean) := stepSym e.1 e.2.1 e.2.2 tb
theorem names_evs (l : List S36) : namesAt l l.length = (evs l).foldl stepE [] := by
  unfold namesAt evs symsAt
  rw [List.foldl_flatMap]
  simp only [List.foldl_map]
  rfl
theorem lk_ofT {α : Type} (z : α) (k : Key) (tb : List (Key × α)) (n : ByteArray) : lk z (ofT z k tb) n = lk z tb n := by
  unfold ofT lk
  split
  · rfl
  · rename_i h
    rw [List.find?_append]
    cases hf : tb.find? (fun p => p.1 == n.data.toList) with
    | some q => rfl
    | none =>
      simp only [Option.none_or, List.find?_cons, List.find?_nil]
      cases hk : k == n.data.toList <;> rfl
theorem lk_upT {α : Type} (z : α) (k : Key) (f : α → α) (tb : List (Key × α)) (n : ByteArray) (hk : k ∈ tb.map (·.1)) : lk z (upT k f tb) n = if k = n.data.toList then f (lk z tb n) else lk z tb n := by
  unfold lk upT
  rw [List.find?_map]
  have hc : ((fun p : Key × α => p.1 == n.data.toList) ∘ fun p => if p.1 = k then (p.1, f p.2) else p) = fun p => p.1 == n.data.toList := by
    funext p
    simp only [Function.comp]
    split <;> rfl
  rw [hc]
  cases hf : tb.find? (fun p => p.1 == n.data.toList) with
  | none =>
    have hn : k ≠ n.data.toList := by
      rintro rfl
      obtain ⟨p, hp, e⟩ := List.mem_map.1 hk
      have := List.find?_eq_none.1 hf p hp
      simp [e] at this
    rw [if_neg hn]
    rfl
  | some q =>
    have hq := List.find?_some hf
    have hqk : q.1 = n.data.toList := by simpa using hq
    simp only [Option.map_some, Option.getD_some]
    by_cases h : k = n.data.toList
    · rw [if_pos h, if_pos (hqk.trans h.symm)]
    · rw [if_neg h, if_neg (fun e => h (e.symm.trans hqk))]
def met (m : Mean) (e : Ev) : Mean := meet2 (meet1 m e.2.2 e.1 e.2.1) e.2.2.f5
/-- does a symbol tell of a name? -/
def tells (n : ByteArray) (e : Ev) : Bool := decide (e.2.2.f4 ≠ 0) && (e.2.2.f0.data.toList == n.data.toList)
theorem lk_step (tb : List (Key × Mean)) (e : Ev) (n : ByteArray) : lk zM (stepE tb e) n = if tells n e = true then met (lk zM tb n) e else lk zM tb n := by
  unfold stepE stepSym tells
  by_cases h : e.2.2.f4 = 0
  · rw [if_pos h]
    simp [h]
  · rw [if_neg h, lk_upT _ _ _ _ _ (ofT_mem _ _ _), lk_ofT]
    simp only [met, h, ne_eq, not_false_eq_true, decide_true, Bool.true_and, beq_iff_eq]
theorem lk_fold (n : ByteArray) : ∀ (es : List Ev) (tb : List (Key × Mean)), lk zM (es.foldl stepE tb) n = (es.filter (tells n)).foldl met (lk zM tb n) := by
  intro es
  induction es with
  | nil => intro tb; rfl
  | cons e es ih =>
    intro tb
    rw [List.foldl_cons, ih, lk_step, List.filter_cons]
    split <;> rfl
theorem keys_step (tb : List (Key × Mean)) (e : Ev) (k : Key) : k ∈ (stepE tb e).map (·.1) ↔ k ∈ tb.map (·.1) ∨ (e.2.2.f4 ≠ 0 ∧ e.2.2.f0.data.toList = k) := by
  unfold stepE stepSym
  by_cases h : e.2.2.f4 = 0
  · rw [if_pos h]
    simp [h]
  · rw [if_neg h, upT_keys]
    unfold ofT
    split
    · rename_i hm
      constructor
      · exact .inl
      · rintro (h1 | ⟨_, rfl⟩)
        · exact h1
        · exact hm
    · simp only [List.map_append, List.map_cons, List.map_nil, List.mem_append, List.mem_singleton]
      constructor
      · rintro (h1 | rfl)
        · exact .inl h1
        · exact .inr ⟨h, rfl⟩
      · rintro (h1 | ⟨_, rfl⟩)
        · exact .inl h1
        · exact .inr rfl
theorem keys_fold (k : Key) : ∀ (es : List Ev) (tb : List (Key × Mean)), k ∈ (es.foldl stepE tb).map (·.1) ↔ k ∈ tb.map (·.1) ∨ ∃ e ∈ es, e.2.2.f4 ≠ 0 ∧ e.2.2.f0.data.toList = k := by
  intro es
  induction es with
  | nil => intro tb; simp
  | cons e es ih =>
    intro tb
    rw [List.foldl_cons, ih, keys_step]
    simp only [List.mem_cons, exists_eq_or_imp, or_assoc]
def isStrong (e : Ev) : Bool := !(e.2.2.f1.toList == []) && (e.2.2.f4 == 1)
def isWeak (e : Ev) : Bool := !(e.2.2.f1.toList == []) && !(e.2.2.f4 == 1)
def isNeed (e : Ev) : Bool := (e.2.2.f1.toList == []) && (e.2.2.f4 == 1)
def isTls (e : Ev) : Bool := e.2.2.f5 == 6
def isPlain (e : Ev) : Bool := !(e.2.2.f5 == 0) && !(e.2.2.f5 == 6)
def entE (e : Ev) : S42 := entryOf e.2.2 e.1 e.2.1
/-- what the tellings of a name come to -/
structure Told (es : List Ev) (m : Mean) : Prop where
  strong : m.strong = (es.countP isStrong : Nat)
  weak : m.weak = (es.countP isWeak : Nat)
  needed : m.needed = (es.countP isNeed : Nat)
  tls : m.tls = es.any isTls
  plain : m.plain = es.any isPlain
  first : ∀ e r, es.filter isStrong = e :: r → m.first = entE e
  second : ∀ e r, es.filter isWeak = e :: r → m.second = entE e
theorem meet2_eq (m : Mean) (t : Int) : meet2 m t = { m with tls := m.tls || (t == 6), plain := m.plain || (!(t == 0) && !(t == 6)) } := by
  unfold meet2
  by_cases h : t = 0
  · subst h
    simp
  · rw [if_neg h]
    by_cases h6 : t = 6 <;> simp [h, h6]
theorem told_step {es : List Ev} {m : Mean} (h : Told es m) (e : Ev) : Told (es ++ [e]) (met m e) := by
  have hcs : ∀ p : Ev → Bool, (es ++ [e]).countP p = es.countP p + if p e = true then 1 else 0 := fun p => by
    rw [List.countP_append, List.countP_singleton]
  have hfs : ∀ p : Ev → Bool, (es ++ [e]).filter p = es.filter p ++ if p e = true then [e] else [] := fun p => by
    rw [List.filter_append]
    congr 1
    cases hp : p e <;> simp [hp]
  have has : ∀ p : Ev → Bool, (es ++ [e]).any p = (es.any p || p e) := fun p => by simp [List.any_append]
  obtain ⟨h1, h2, h3, h4, h5, h6, h7⟩ := h
  unfold met
  rw [meet2_eq]
  by_cases hs : e.2.2.f1.toList = []
  · have hst : isStrong e = false := by simp [isStrong, hs]
    have hwk : isWeak e = false := by simp [isWeak, hs]
    by_cases hb : e.2.2.f4 = 1
    · have hnd : isNeed e = true := by simp [isNeed, hs, hb]
      have hm : meet1 m e.2.2 e.1 e.2.1 = { m with needed := m.needed + 1 } := by unfold meet1; rw [if_pos hs, if_pos hb]
      rw [hm]
      refine ⟨?_, ?_, ?_, ?_, ?_, ?_, ?_⟩
      · rw [hcs, hst]; simpa using h1
      · rw [hcs, hwk]; simpa using h2
      · rw [hcs, hnd]; simp only [if_true]; rw [h3]; rfl
      · rw [has, h4]; rfl
      · rw [has, h5]; rfl
      · intro x r hx; rw [hfs, hst] at hx; simp only [Bool.false_eq_true, if_false, List.append_nil] at hx; exact h6 x r hx
      · intro x r hx; rw [hfs, hwk] at hx; simp only [Bool.false_eq_true, if_false, List.append_nil] at hx; exact h7 x r hx
    · have hnd : isNeed e = false := by simp [isNeed, hs, hb]
      have hm : meet1 m e.2.2 e.1 e.2.1 = m := by unfold meet1; rw [if_pos hs, if_neg hb]
      rw [hm]
      refine ⟨?_, ?_, ?_, ?_, ?_, ?_, ?_⟩
      · rw [hcs, hst]; simpa using h1
      · rw [hcs, hwk]; simpa using h2
      · rw [hcs, hnd]; simpa using h3
      · rw [has, h4]; rfl
      · rw [has, h5]; rfl
      · intro x r hx; rw [hfs, hst] at hx; simp only [Bool.false_eq_true, if_false, List.append_nil] at hx; exact h6 x r hx
      · intro x r hx; rw [hfs, hwk] at hx; simp only [Bool.false_eq_true, if_false, List.append_nil] at hx; exact h7 x r hx
  · have hnd : isNeed e = false := by simp [isNeed, hs]
    by_cases hb : e.2.2.f4 = 1
    · have hst : isStrong e = true := by simp [isStrong, hs, hb]
      have hwk : isWeak e = false := by simp [isWeak, hs, hb]
      have hm : (meet1 m e.2.2 e.1 e.2.1) = { m with first := if m.strong = 0 then entE e else m.first, strong := m.strong + 1 } := by
        unfold meet1
        rw [if_neg hs, if_pos hb]
        split <;> rfl
      rw [hm]
      refine ⟨?_, ?_, ?_, ?_, ?_, ?_, ?_⟩
      · rw [hcs, hst]; simp only [if_true]; rw [h1]; rfl
      · rw [hcs, hwk]; simpa using h2
      · rw [hcs, hnd]; simpa using h3
      · rw [has, h4]; rfl
      · rw [has, h5]; rfl
      · intro x r hx
        rw [hfs, hst] at hx
        simp only [if_true] at hx ⊢
        cases hf : es.filter isStrong with
        | nil =>
          have h0 : m.strong = 0 := by rw [h1, List.countP_eq_length_filter, hf]; rfl
          rw [hf] at hx
          injection hx with hx _
          rw [if_pos h0, hx]
        | cons y q =>
          have h0 : ¬ m.strong = 0 := by rw [h1, List.countP_eq_length_filter, hf]; simp; omega
          rw [hf] at hx
          injection hx with hx _
          rw [if_neg h0, ← hx]
          exact h6 y q hf
      · intro x r hx; rw [hfs, hwk] at hx; simp only [Bool.false_eq_true, if_false, List.append_nil] at hx; exact h7 x r hx
    · have hst : isStrong e = false := by simp [isStrong, hs, hb]
      have hwk : isWeak e = true := by simp [isWeak, hs, hb]
      have hm : (meet1 m e.2.2 e.1 e.2.1) = { m with second := if m.weak = 0 then entE e else m.second, weak := m.weak + 1 } := by
        unfold meet1
        rw [if_neg hs, if_neg hb]
        split <;> rfl
      rw [hm]
      refine ⟨?_, ?_, ?_, ?_, ?_, ?_, ?_⟩
      · rw [hcs, hst]; simpa using h1
      · rw [hcs, hwk]; simp only [if_true]; rw [h2]; rfl
      · rw [hcs, hnd]; simpa using h3
      · rw [has, h4]; rfl
      · rw [has, h5]; rfl
      · intro x r hx; rw [hfs, hst] at hx; simp only [Bool.false_eq_true, if_false, List.append_nil] at hx; exact h6 x r hx
      · intro x r hx
        rw [hfs, hwk] at hx
        simp only [if_true] at hx ⊢
        cases hf : es.filter isWeak with
        | nil =>
          have h0 : m.weak = 0 := by rw [h2, List.countP_eq_length_filter, hf]; rfl
          rw [hf] at hx
          injection hx with hx _
          rw [if_pos h0, hx]
        | cons y q =>
          have h0 : ¬ m.weak = 0 := by rw [h2, List.countP_eq_length_filter, hf]; simp; omega
          rw [hf] at hx
          injection hx with hx _
          rw [if_neg h0, ← hx]
          exact h7 y q hf
theorem told (es : List Ev) : Told es (es.foldl met zM) := by
  induction es using snoc_ind with
  | h0 => exact ⟨rfl, rfl, rfl, rfl, rfl, fun _ _ h => (by cases h), fun _ _ h => (by cases h)⟩
  | h1 l x ih =>
    rw [List.foldl_append]
    exact told_step ih x
/-- a table's word on a name -/
theorem told_of (l : List S36) (n : ByteArray) : Told ((evs l).filter (tells n)) (lk zM (namesAt l l.length) n) := by
  rw [names_evs, lk_fold]
  exact told _
end Go.Proofs.Ytibkcnlcmempgaa.Res
end
section
namespace Go.Proofs.Ytibkcnlcmempgaa.Res
set_option linter.unusedVariables false
set_option linter.unusedSimpArgs false
open Go.RowKit Go.Proofs.Ytibkcnlcmempgaa.G Go.Proofs.YtibkcnlcmempgaaW.PrintWords
structure Alike (k : Nat) (m m' : Mean) : Prop where
  strong : m'.strong = m.strong
  weak : m'.weak = m.weak
  needed : m'.needed = m.needed
  tls : m'.tls = m.tls
  plain : m'.plain = m.plain
end Go.Proofs.Ytibkcnlcmempgaa.Res
end
section
namespace Go.Proofs.Ytibkcnlcmempgaa.Res
set_option linter.unusedVariables false
set_option linter.unusedSimpArgs false
open Go.RowKit Go.Proofs.Ytibkcnlcmempgaa.G Go.Proofs.YtibkcnlcmempgaaW.PrintWords
abbrev Sv := S72
def secs (l : List S36) : List Sv := (List.range l.length).flatMap fun (i : Nat) => (List.range (rd_T36 l (i : Int)).f0.length).map fun (j : Nat) => rd_T72 (rd_T36 l (i : Int)).f0 (j : Int)
def stepK (tb : List (Key × Knd)) (s : Sv) : List (Key × Knd) := stepSec s tb
theorem kinds_secs (l : List S36) : kindsAt l l.length = (secs l).foldl stepK [] := by
  unfold kindsAt secs secsAt
  rw [List.foldl_flatMap]
  simp only [List.foldl_map]
  rfl
def named (n : ByteArray) (s : Sv) : Bool := s.f0.data.toList == n.data.toList
theorem lkK_step (tb : List (Key × Knd)) (s : Sv) (n : ByteArray) : lk zK (stepK tb s) n = if named n s = true then kndF s (lk zK tb n) else lk zK tb n := by
  unfold stepK stepSec named
  rw [lk_upT _ _ _ _ _ (ofT_mem _ _ _), lk_ofT]
  simp only [beq_iff_eq]
theorem lkK_fold (n : ByteArray) : ∀ (ss : List Sv) (tb : List (Key × Knd)), lk zK (ss.foldl stepK tb) n = (ss.filter (named n)).foldl (fun m s => kndF s m) (lk zK tb n) := by
  intro ss
  induction ss with
  | nil => intro tb; rfl
  | cons s ss ih =>
    intro tb
    rw [List.foldl_cons, ih, lkK_step, List.filter_cons]
    split <;> rfl
theorem keysK_step (tb : List (Key × Knd)) (s : Sv) (k : Key) : k ∈ (stepK tb s).map (·.1) ↔ k ∈ tb.map (·.1) ∨ s.f0.data.toList = k := by
  unfold stepK stepSec
  rw [upT_keys]
  unfold ofT
  split
  · rename_i hm
    constructor
    · exact .inl
    · rintro (h1 | rfl)
      · exact h1
      · exact hm
  · simp only [List.map_append, List.map_cons, List.map_nil, List.mem_append, List.mem_singleton]
    constructor
    · rintro (h1 | rfl)
      · exact .inl h1
      · exact .inr rfl
    · rintro (h1 | rfl)
      · exact .inl h1
      · exact .inr rfl
theorem keysK_fold (k : Key) : ∀ (ss : List Sv) (tb : List (Key × Knd)), k ∈ (ss.foldl stepK tb).map (·.1) ↔ k ∈ tb.map (·.1) ∨ ∃ s ∈ ss, s.f0.data.toList = k := by
  intro ss
  induction ss with
  | nil => intro tb; simp
  | cons s ss ih =>
    intro tb
    rw [List.foldl_cons, ih, keysK_step]
    simp only [List.mem_cons, exists_eq_or_imp, or_assoc]
/-- the kinds that a name was met with do not agree -/
structure ToldK (ss : List Sv) (m : Knd) : Prop where
  some : m.some = !ss.isEmpty
  first : m.some = true → ∃ s ∈ ss, m.typ = s.f1 ∧ m.flags = s.f2
  clash : m.clash = true ↔ ∃ s ∈ ss, ∃ t ∈ ss, s.f1 ≠ t.f1 ∨ s.f2 ≠ t.f2
theorem toldK_step {ss : List Sv} {m : Knd} (h : ToldK ss m) (s : Sv) : ToldK (ss ++ [s]) (kndF s m) := by
  obtain ⟨h1, h2, h3⟩ := h
  unfold kndF
  cases hm : m.some with
  | false =>
    have he : ss = [] := by
      rw [hm] at h1
      cases ss with
      | nil => rfl
      | cons a b => simp at h1
    subst he
    have hc : m.clash = false := by
      cases hc : m.clash with
      | false => rfl
      | true => obtain ⟨x, hx, _⟩ := h3.1 hc; cases hx
    simp only [Bool.false_eq_true, if_false]
    refine ⟨rfl, fun _ => ⟨s, by simp, rfl, rfl⟩, ?_⟩
    simp [hc]
  | true =>
    obtain ⟨x, hx, hx1, hx2⟩ := h2 hm
    simp only [if_true]
    refine ⟨?_, fun _ => ⟨x, by simp [hx], hx1, hx2⟩, ?_⟩
    · cases ss <;> rfl
    · simp only [Bool.or_eq_true, decide_eq_true_eq]
      constructor
      · rintro (hc | hc)
        · obtain ⟨a, ha, b, hb, hab⟩ := h3.1 hc
          exact ⟨a, by simp [ha], b, by simp [hb], hab⟩
        · exact ⟨x, by simp [hx], s, by simp, by rw [← hx1, ← hx2]; exact hc⟩
      · rintro ⟨a, ha, b, hb, hab⟩
        by_cases hc : m.clash = true
        · exact .inl hc
        · refine .inr ?_
          have hall : ∀ p ∈ ss, p.f1 = m.typ ∧ p.f2 = m.flags := by
            intro p hp
            refine ⟨?_, ?_⟩
            · exact Classical.byContradiction fun e => hc (h3.2 ⟨p, hp, x, hx, .inl (by rw [← hx1]; exact e)⟩)
            · exact Classical.byContradiction fun e => hc (h3.2 ⟨p, hp, x, hx, .inr (by rw [← hx2]; exact e)⟩)
          have hall2 : ∀ p ∈ ss ++ [s], p = s ∨ (p.f1 = m.typ ∧ p.f2 = m.flags) := by
            intro p hp
            rcases List.mem_append.1 hp with hp | hp
            · exact .inr (hall p hp)
            · exact .inl (List.mem_singleton.1 hp)
          apply Classical.byContradiction
          intro hne
          have hs : s.f1 = m.typ ∧ s.f2 = m.flags := by
            refine ⟨Classical.byContradiction fun e => hne (.inl (fun q => e q.symm)), Classical.byContradiction fun e => hne (.inr (fun q => e q.symm))⟩
          have hq : ∀ p ∈ ss ++ [s], p.f1 = m.typ ∧ p.f2 = m.flags := fun p hp => (hall2 p hp).elim (fun e => by rw [e]; exact hs) id
          have h5 := hq a ha
          have h6 := hq b hb
          rcases hab with h | h
          · exact h (h5.1.trans h6.1.symm)
          · exact h (h5.2.trans h6.2.symm)
theorem toldK (ss : List Sv) : ToldK ss (ss.foldl (fun m s => kndF s m) zK) := by
  induction ss using snoc_ind with
  | h0 => exact ⟨rfl, fun h => (by cases h), ⟨fun h => (by cases h), fun ⟨s, hs, _⟩ => (by cases hs)⟩⟩
  | h1 l x ih =>
    rw [List.foldl_append]
    exact toldK_step ih x
end Go.Proofs.Ytibkcnlcmempgaa.Res
end
section
namespace Go.Proofs.Ytibkcnlcmempgaa.Res
set_option linter.unusedVariables false
set_option linter.unusedSimpArgs false
open Go.RowKit Go.Proofs.Ytibkcnlcmempgaa.G Go.Proofs.YtibkcnlcmempgaaW.PrintWords
theorem sym_zero {f : S36} (h : checkFile f = 0) : symCheck f.f1 (namesOf f) = 0 := by
  unfold checkFile at h
  split at h
  · rename_i h1
    exact absurd h h1
  · rename_i h1
    exact Classical.not_not.1 h1
theorem evs_in {l : List S36} {e : Ev} (h : e ∈ evs l) : e.1 < l.length ∧ e.2.1 < (rd_T36 l (e.1 : Int)).f1.length ∧ e.2.2 = symOf l e.1 e.2.1 := by
  unfold evs at h
  rw [List.mem_flatMap] at h
  obtain ⟨i, hi, h⟩ := h
  obtain ⟨j, hj, rfl⟩ := List.mem_map.1 h
  exact ⟨List.mem_range.1 hi, List.mem_range.1 hj, rfl⟩
theorem rd_mem (l : List S36) (i : Nat) (h : i < l.length) : rd_T36 l (i : Int) ∈ l := by
  unfold rd_T36
  rw [Int.toNat_natCast, List.getD_eq_getElem?_getD, List.getElem?_eq_getElem h]
  exact List.getElem_mem _
theorem bytes_eq {a b : ByteArray} (h : a.data.toList = b.data.toList) : a = b := by
  rw [← asStr_of a, ← asStr_of b, h]
theorem strong_one {l : List S36} (h : checkR l = 0) (hf : faultsS l = []) (n : ByteArray) (hn : n ∈ rise (namesAt l l.length)) : (lk zM (namesAt l l.length) n).strong = 0 ∨ (lk zM (namesAt l l.length) n).strong = 1 := by
  have h0 := (told_of l n).strong
  unfold faultsS at hf
  rw [if_neg (by simp [h])] at hf
  unfold faultsFS at hf
  simp only [List.append_eq_nil_iff] at hf
  have h1 := hf.1.1.1
  unfold wrongS at h1
  rw [List.map_eq_nil_iff, List.filter_eq_nil_iff] at h1
  have h2 := h1 n hn
  unfold twice at h2
  simp only [decide_eq_true_eq] at h2
  omega
end Go.Proofs.Ytibkcnlcmempgaa.Res
end
section
namespace Go.Proofs.Ytibkcnlcmempgaa.Res
set_option linter.unusedVariables false
set_option linter.unusedSimpArgs false
open Go.RowKit Go.Proofs.Ytibkcnlcmempgaa.G Go.Proofs.YtibkcnlcmempgaaW.PrintWords
/-- from some fuel on -/
def Late {α : Type} (f : Nat → Option α) (r : α) : Prop := ∃ K, ∀ k, K ≤ k → f k = some r
theorem late_step {α : Type} {f g : Nat → Option α} {r : α} (h : Late g r) (e : ∀ k, f (k + 1) = g k) : Late f r := by
  obtain ⟨K, hK⟩ := h
  refine ⟨K + 1, fun k hk => ?_⟩
  obtain ⟨k', rfl⟩ : ∃ k', k = k' + 1 := ⟨k - 1, by omega⟩
  rw [e]
  exact hK k' (by omega)
theorem late_now {α : Type} {f : Nat → Option α} {r : α} (e : ∀ k, f (k + 1) = some r) : Late f r := late_step (g := fun _ => some r) ⟨0, fun _ _ => rfl⟩ e
theorem nextJ (i : Nat) (h : i < 1000000000000000) : wrap64 ((i : Int) + 1) = ((i + 1 : Nat) : Int) := by
  unfold wrap64
  omega
/-- the symbols of a file from place j on -/
def fileEvs (l : List S36) (i j m : Nat) : List Ev := (List.range' j m).map fun (j : Nat) => (i, j, symOf l i j)
def restEvs (l : List S36) (i m : Nat) : List Ev := (List.range' i m).flatMap fun (i : Nat) => fileEvs l i 0 (rd_T36 l (i : Int)).f1.length
theorem evs_rest (l : List S36) : evs l = restEvs l 0 l.length := by
  unfold evs restEvs fileEvs
  rw [List.range_eq_range']
  simp only [List.range_eq_range']
def strongOf (n : ByteArray) (e : Ev) : Bool := (e.2.2.f0.toList == n.toList) && ((e.2.2.f4 == 1) && !(e.2.2.f1.toList == []))
theorem strong_l1 (l : List S36) (hl : l.length ≤ 16) (hs : ∀ i, i < l.length → (rd_T36 l (i : Int)).f1.length ≤ 2000) (n : ByteArray) (i : Nat) (hi : i < l.length) : ∀ (m j a : Nat), j + m = (rd_T36 l (i : Int)).f1.length → a + m ≤ 1000000 → ∀ r, Late (fun k => gangwaylaw18_strong.l0 k l n ((a + (fileEvs l i j m).countP (strongOf n) : Nat) : Int) ((i + 1 : Nat) : Int)) r → Late (fun k => gangwaylaw18_strong.l1 k l n (a : Int) (i : Int) (j : Int)) r := by
  intro m
  induction m with
  | zero =>
    intro j a hj ha r h
    refine late_step h fun k => ?_
    show gangwaylaw18_strong.l1 (k + 1) l n (a : Int) (i : Int) (j : Int) = _
    rw [gangwaylaw18_strong.l1, if_pos (by omega), if_pos (by omega), if_neg (by omega), nextJ i (by omega)]
    rfl
  | succ m ih =>
    intro j a hj ha r h
    have hc : (fileEvs l i j (m + 1)).countP (strongOf n) = (if strongOf n (i, j, symOf l i j) = true then 1 else 0) + (fileEvs l i (j + 1) m).countP (strongOf n) := by
      unfold fileEvs
      rw [List.range'_succ, List.map_cons, List.countP_cons, Nat.add_comm]
    have hw : wrap64 ((a : Int) + 1) = ((a + 1 : Nat) : Int) := nextJ a (by omega)
    have e : ∀ k, gangwaylaw18_strong.l1 (k + 1) l n (a : Int) (i : Int) (j : Int) = gangwaylaw18_strong.l1 k l n ((a + (if strongOf n (i, j, symOf l i j) = true then 1 else 0) : Nat) : Int) (i : Int) ((j + 1 : Nat) : Int) := by
      intro k
      rw [gangwaylaw18_strong.l1, if_pos (by omega), if_pos (by omega), if_pos (by omega), if_pos (by omega), hw, nextJ j (by have := hs i hi; omega)]
      unfold strongOf symOf
      by_cases h1 : (rd_T38 (rd_T36 l (i : Int)).f1 (j : Int)).f0.toList = n.toList
      · by_cases h2 : (rd_T38 (rd_T36 l (i : Int)).f1 (j : Int)).f4 = 1
        · by_cases h3 : (rd_T38 (rd_T36 l (i : Int)).f1 (j : Int)).f1.toList = []
          · simp [h1, h2, h3]
          · simp [h1, h2, h3]
        · simp [h1, h2]
      · simp [h1]
    refine late_step (ih (j + 1) (a + (if strongOf n (i, j, symOf l i j) = true then 1 else 0)) (by omega) (by split <;> omega) r ?_) e
    rw [hc] at h
    rw [Nat.add_assoc]
    exact h
theorem count_le (l : List S36) (p : Ev → Bool) (i j m : Nat) : (fileEvs l i j m).countP p ≤ m := by
  have := List.countP_le_length (p := p) (l := fileEvs l i j m)
  simpa [fileEvs] using this
theorem strong_l0 (l : List S36) (hl : l.length ≤ 16) (hs : ∀ i, i < l.length → (rd_T36 l (i : Int)).f1.length ≤ 2000) (n : ByteArray) : ∀ (m i a : Nat), i + m = l.length → a + 2000 * m ≤ 900000 → Late (fun k => gangwaylaw18_strong.l0 k l n (a : Int) (i : Int)) (((a + (restEvs l i m).countP (strongOf n) : Nat) : Int)) := by
  intro m
  induction m with
  | zero =>
    intro i a hi ha
    refine late_now fun k => ?_
    show gangwaylaw18_strong.l0 (k + 1) l n (a : Int) (i : Int) = _
    rw [gangwaylaw18_strong.l0, if_neg (by omega)]
    rfl
  | succ m ih =>
    intro i a hi ha
    have hc : (restEvs l i (m + 1)).countP (strongOf n) = (fileEvs l i 0 (rd_T36 l (i : Int)).f1.length).countP (strongOf n) + (restEvs l (i + 1) m).countP (strongOf n) := by
      unfold restEvs
      rw [List.range'_succ, List.flatMap_cons, List.countP_append]
    have hsi := hs i (by omega)
    have hle := count_le l (strongOf n) i 0 (rd_T36 l (i : Int)).f1.length
    refine late_step (g := fun k => gangwaylaw18_strong.l1 k l n (a : Int) (i : Int) ((0 : Nat) : Int)) (strong_l1 l hl hs n i (by omega) (rd_T36 l (i : Int)).f1.length 0 a (by omega) (by omega) _ ?_) fun k => ?_
    · rw [hc, ← Nat.add_assoc]
      exact ih (i + 1) (a + (fileEvs l i 0 (rd_T36 l (i : Int)).f1.length).countP (strongOf n)) (by omega) (by omega)
    · show gangwaylaw18_strong.l0 (k + 1) l n (a : Int) (i : Int) = _
      rw [gangwaylaw18_strong.l0, if_pos (by omega)]
      rfl
theorem strong_f (l : List S36) (h : checkR l = 0) (n : ByteArray) : Late (fun k => gangwaylaw18_strong.f k l n) (((evs l).countP (strongOf n) : Nat) : Int) := by
  have hf := (fits_of h).1
  have h1 := strong_l0 l hf.1 (fun i hi => (hf.2 i hi).1) n l.length 0 0 (by omega) (by have := hf.1; omega)
  rw [← evs_rest, Nat.zero_add] at h1
  exact h1
def defOf (n : ByteArray) (e : Ev) : Bool := (e.2.2.f0.toList == n.toList) && (!(e.2.2.f4 == 0) && !(e.2.2.f1.toList == []))
theorem defined_l1 (l : List S36) (hl : l.length ≤ 16) (hs : ∀ i, i < l.length → (rd_T36 l (i : Int)).f1.length ≤ 2000) (n : ByteArray) (i : Nat) (hi : i < l.length) (r : Bool) (h : Late (fun k => gangwaylaw18_defined.l0 k l n ((i + 1 : Nat) : Int)) r) : ∀ (m j : Nat), j + m = (rd_T36 l (i : Int)).f1.length → Late (fun k => gangwaylaw18_defined.l1 k l n (i : Int) (j : Int)) ((fileEvs l i j m).any (defOf n) || r) := by
  intro m
  induction m with
  | zero =>
    intro j hj
    refine late_step h fun k => ?_
    show gangwaylaw18_defined.l1 (k + 1) l n (i : Int) (j : Int) = _
    rw [gangwaylaw18_defined.l1, if_pos (by omega), if_pos (by omega), if_neg (by omega), nextJ i (by omega)]
  | succ m ih =>
    intro j hj
    have hc : (fileEvs l i j (m + 1)).any (defOf n) = (defOf n (i, j, symOf l i j) || (fileEvs l i (j + 1) m).any (defOf n)) := by
      unfold fileEvs
      rw [List.range'_succ, List.map_cons, List.any_cons]
    have e : ∀ k, gangwaylaw18_defined.l1 (k + 1) l n (i : Int) (j : Int) = if defOf n (i, j, symOf l i j) = true then some true else gangwaylaw18_defined.l1 k l n (i : Int) ((j + 1 : Nat) : Int) := by
      intro k
      rw [gangwaylaw18_defined.l1, if_pos (by omega), if_pos (by omega), if_pos (by omega), if_pos (by omega), nextJ j (by have := hs i hi; omega)]
      unfold defOf symOf
      by_cases h1 : (rd_T38 (rd_T36 l (i : Int)).f1 (j : Int)).f0.toList = n.toList
      · by_cases h2 : (rd_T38 (rd_T36 l (i : Int)).f1 (j : Int)).f4 = 0
        · simp [h1, h2]
        · by_cases h3 : (rd_T38 (rd_T36 l (i : Int)).f1 (j : Int)).f1.toList = []
          · simp [h1, h2, h3]
          · simp [h1, h2, h3]
      · simp [h1]
    rw [hc]
    cases hd : defOf n (i, j, symOf l i j) with
    | true => exact late_now fun k => by rw [e, if_pos hd]; simp
    | false =>
      rw [Bool.false_or]
      exact late_step (ih (j + 1) (by omega)) fun k => by rw [e, if_neg (by simp [hd])]
theorem defined_l0 (l : List S36) (hl : l.length ≤ 16) (hs : ∀ i, i < l.length → (rd_T36 l (i : Int)).f1.length ≤ 2000) (n : ByteArray) : ∀ (m i : Nat), i + m = l.length → Late (fun k => gangwaylaw18_defined.l0 k l n (i : Int)) ((restEvs l i m).any (defOf n)) := by
  intro m
  induction m with
  | zero =>
    intro i hi
    refine late_now fun k => ?_
    show gangwaylaw18_defined.l0 (k + 1) l n (i : Int) = _
    rw [gangwaylaw18_defined.l0, if_neg (by omega)]
    rfl
  | succ m ih =>
    intro i hi
    have hc : (restEvs l i (m + 1)).any (defOf n) = ((fileEvs l i 0 (rd_T36 l (i : Int)).f1.length).any (defOf n) || (restEvs l (i + 1) m).any (defOf n)) := by
      unfold restEvs
      rw [List.range'_succ, List.flatMap_cons, List.any_append]
    rw [hc]
    refine late_step (g := fun k => gangwaylaw18_defined.l1 k l n (i : Int) ((0 : Nat) : Int)) (defined_l1 l hl hs n i (by omega) _ (ih (i + 1) (by omega)) _ 0 (by omega)) fun k => ?_
    show gangwaylaw18_defined.l0 (k + 1) l n (i : Int) = _
    rw [gangwaylaw18_defined.l0, if_pos (by omega)]
    rfl
theorem defined_f (l : List S36) (h : checkR l = 0) (n : ByteArray) : Late (fun k => gangwaylaw18_defined.f k l n) ((evs l).any (defOf n)) := by
  have hf := (fits_of h).1
  have h1 := defined_l0 l hf.1 (fun i hi => (hf.2 i hi).1) n l.length 0 (by omega)
  rw [← evs_rest] at h1
  exact h1
def tlsOf (n : ByteArray) (e : Ev) : Bool := (e.2.2.f0.toList == n.toList) && (!(e.2.2.f4 == 0) && (e.2.2.f5 == 6))
def plainOf' (n : ByteArray) (e : Ev) : Bool := (e.2.2.f0.toList == n.toList) && (!(e.2.2.f4 == 0) && (!(e.2.2.f5 == 6) && !(e.2.2.f5 == 0)))
theorem mixed_l1 (l : List S36) (hl : l.length ≤ 16) (hs : ∀ i, i < l.length → (rd_T36 l (i : Int)).f1.length ≤ 2000) (n : ByteArray) (i : Nat) (hi : i < l.length) (r : Bool) : ∀ (m j : Nat) (t o : Bool), j + m = (rd_T36 l (i : Int)).f1.length → Late (fun k => gangwaylaw18_mixed.l0 k l n (t || (fileEvs l i j m).any (tlsOf n)) (o || (fileEvs l i j m).any (plainOf' n)) ((i + 1 : Nat) : Int)) r → Late (fun k => gangwaylaw18_mixed.l1 k l n t o (i : Int) (j : Int)) r := by
  intro m
  induction m with
  | zero =>
    intro j t o hj h
    refine late_step h fun k => ?_
    show gangwaylaw18_mixed.l1 (k + 1) l n t o (i : Int) (j : Int) = _
    rw [gangwaylaw18_mixed.l1, if_pos (by omega), if_pos (by omega), if_neg (by omega), nextJ i (by omega)]
    simp [fileEvs]
  | succ m ih =>
    intro j t o hj h
    have hc : ∀ p : Ev → Bool, (fileEvs l i j (m + 1)).any p = (p (i, j, symOf l i j) || (fileEvs l i (j + 1) m).any p) := by
      intro p
      unfold fileEvs
      rw [List.range'_succ, List.map_cons, List.any_cons]
    rw [hc, hc, ← Bool.or_assoc, ← Bool.or_assoc] at h
    refine late_step (ih (j + 1) _ _ (by omega) h) fun k => ?_
    show gangwaylaw18_mixed.l1 (k + 1) l n t o (i : Int) (j : Int) = _
    rw [gangwaylaw18_mixed.l1, if_pos (by omega), if_pos (by omega), if_pos (by omega), if_pos (by omega), nextJ j (by have := hs i hi; omega)]
    unfold tlsOf plainOf' symOf
    by_cases h1 : (rd_T38 (rd_T36 l (i : Int)).f1 (j : Int)).f0.toList = n.toList
    · by_cases h2 : (rd_T38 (rd_T36 l (i : Int)).f1 (j : Int)).f4 = 0
      · simp [h1, h2]
      · by_cases h3 : (rd_T38 (rd_T36 l (i : Int)).f1 (j : Int)).f5 = 6
        · have b2 : ((rd_T38 (rd_T36 l (i : Int)).f1 (j : Int)).f4 == 0) = false := beq_eq_false_iff_ne.2 h2
          cases t <;> cases o <;> simp [h1, h2, h3, b2, bne]
        · by_cases h4 : (rd_T38 (rd_T36 l (i : Int)).f1 (j : Int)).f5 = 0
          · have b2 : ((rd_T38 (rd_T36 l (i : Int)).f1 (j : Int)).f4 == 0) = false := beq_eq_false_iff_ne.2 h2
            cases t <;> cases o <;> simp [h1, h2, h3, h4, b2, bne]
          · have b2 : ((rd_T38 (rd_T36 l (i : Int)).f1 (j : Int)).f4 == 0) = false := beq_eq_false_iff_ne.2 h2
            have b3 : ((rd_T38 (rd_T36 l (i : Int)).f1 (j : Int)).f5 == 6) = false := beq_eq_false_iff_ne.2 h3
            have b4 : ((rd_T38 (rd_T36 l (i : Int)).f1 (j : Int)).f5 == 0) = false := beq_eq_false_iff_ne.2 h4
            cases t <;> cases o <;> simp [h1, h2, h3, h4, b2, b3, b4, bne]
    · have hb : ((rd_T38 (rd_T36 l (i : Int)).f1 (j : Int)).f0.toList == n.toList) = false := beq_eq_false_iff_ne.2 h1
      rw [if_neg h1, hb]
      simp only [Bool.false_and, Bool.or_false]
theorem mixed_l0 (l : List S36) (hl : l.length ≤ 16) (hs : ∀ i, i < l.length → (rd_T36 l (i : Int)).f1.length ≤ 2000) (n : ByteArray) : ∀ (m i : Nat) (t o : Bool), i + m = l.length → Late (fun k => gangwaylaw18_mixed.l0 k l n t o (i : Int)) ((t || (restEvs l i m).any (tlsOf n)) && (o || (restEvs l i m).any (plainOf' n))) := by
  intro m
  induction m with
  | zero =>
    intro i t o hi
    refine late_now fun k => ?_
    show gangwaylaw18_mixed.l0 (k + 1) l n t o (i : Int) = _
    rw [gangwaylaw18_mixed.l0, if_neg (by omega)]
    cases t <;> cases o <;> rfl
  | succ m ih =>
    intro i t o hi
    have hc : ∀ p : Ev → Bool, (restEvs l i (m + 1)).any p = ((fileEvs l i 0 (rd_T36 l (i : Int)).f1.length).any p || (restEvs l (i + 1) m).any p) := by
      intro p
      unfold restEvs
      rw [List.range'_succ, List.flatMap_cons, List.any_append]
    rw [hc, hc, ← Bool.or_assoc, ← Bool.or_assoc]
    refine late_step (g := fun k => gangwaylaw18_mixed.l1 k l n t o (i : Int) ((0 : Nat) : Int)) (mixed_l1 l hl hs n i (by omega) _ (rd_T36 l (i : Int)).f1.length 0 t o (by omega) (ih (i + 1) _ _ (by omega))) fun k => ?_
    show gangwaylaw18_mixed.l0 (k + 1) l n t o (i : Int) = _
    rw [gangwaylaw18_mixed.l0, if_pos (by omega)]
    rfl
theorem mixed_f (l : List S36) (h : checkR l = 0) (n : ByteArray) : Late (fun k => gangwaylaw18_mixed.f k l n) ((evs l).any (tlsOf n) && (evs l).any (plainOf' n)) := by
  have hf := (fits_of h).1
  have h1 := mixed_l0 l hf.1 (fun i hi => (hf.2 i hi).1) n l.length 0 false false (by omega)
  rw [← evs_rest, Bool.false_or, Bool.false_or] at h1
  exact h1
/-- the law's count is the table's -/
theorem strong_told (l : List S36) (n : ByteArray) : (lk zM (namesAt l l.length) n).strong = (((evs l).countP (strongOf n) : Nat) : Int) := by
  rw [(told_of l n).strong, List.countP_filter]
  congr 2
  funext e
  unfold isStrong tells strongOf
  have hb : (e.2.2.f0.data.toList == n.data.toList) = (e.2.2.f0.toList == n.toList) := by
    rw [ByteArray.toList_eq, ByteArray.toList_eq]
  rw [hb]
  have h4 : (e.2.2.f4 == 1) = decide (e.2.2.f4 = 1) := rfl
  rw [h4]
  cases (e.2.2.f0.toList == n.toList) <;> cases (e.2.2.f1.toList == []) <;> by_cases h1 : e.2.2.f4 = 1 <;> simp [h1]
theorem name_eq (e : Ev) (n : ByteArray) : (e.2.2.f0.data.toList == n.data.toList) = (e.2.2.f0.toList == n.toList) := by
  rw [ByteArray.toList_eq, ByteArray.toList_eq]
theorem mixed_told (l : List S36) (n : ByteArray) : mixed (lk zM (namesAt l l.length) n) = ((evs l).any (tlsOf n) && (evs l).any (plainOf' n)) := by
  unfold mixed
  rw [(told_of l n).tls, (told_of l n).plain, List.any_filter, List.any_filter]
  congr 2
  · funext e
    unfold tells isTls tlsOf
    rw [name_eq]
    cases (e.2.2.f0.toList == n.toList) <;> by_cases h : e.2.2.f4 = 0 <;> simp [h]
  · funext e
    unfold tells isPlain plainOf'
    rw [name_eq]
    cases (e.2.2.f0.toList == n.toList) <;> by_cases h : e.2.2.f4 = 0 <;> cases (e.2.2.f5 == 6) <;> cases (e.2.2.f5 == 0) <;> simp [h]
end Go.Proofs.Ytibkcnlcmempgaa.Res
end
section
namespace Go.Proofs.Ytibkcnlcmempgaa.Res
set_option linter.unusedVariables false
set_option linter.unusedSimpArgs false
open Go.RowKit Go.Proofs.Ytibkcnlcmempgaa.G Go.Proofs.YtibkcnlcmempgaaW.PrintWords
def secOf (l : List S36) (i a : Nat) : Sv := rd_T72 (rd_T36 l (i : Int)).f0 (a : Int)
def unlike (x y : Sv) : Bool := (x.f0.toList == y.f0.toList) && !((x.f1 == y.f1) && (x.f2 == y.f2))
def rowB (l : List S36) (i j a b m : Nat) : Bool := (List.range' b m).any fun b => unlike (secOf l i a) (secOf l j b)
def pairB (l : List S36) (i j a m : Nat) : Bool := (List.range' a m).any fun a => rowB l i j a 0 (rd_T36 l (j : Int)).f0.length
def fileB (l : List S36) (i j m : Nat) : Bool := (List.range' j m).any fun j => pairB l i j 0 (rd_T36 l (i : Int)).f0.length
def clashB (l : List S36) (i m : Nat) : Bool := (List.range' i m).any fun i => fileB l i 0 i
section
variable (l : List S36) (hl : l.length ≤ 16) (hs : ∀ i, i < l.length → (rd_T36 l (i : Int)).f0.length ≤ 64)
include hl hs
theorem clash_l3 (i j a : Nat) (hi : i < l.length) (hj : j < l.length) (ha : a < (rd_T36 l (i : Int)).f0.length) (r : Bool) (h : Late (fun k => gangwaylaw18_clash.l2 k l (i : Int) (j : Int) ((a + 1 : Nat) : Int)) r) : ∀ (m b : Nat), b + m = (rd_T36 l (j : Int)).f0.length → Late (fun k => gangwaylaw18_clash.l3 k l (i : Int) (j : Int) (a : Int) (b : Int)) (rowB l i j a b m || r) := by
  have hl16 := hl
  have hsi := hs i hi
  have hsj := hs j hj
  intro m
  induction m with
  | zero =>
    intro b hb
    refine late_step (g := fun k => gangwaylaw18_clash.l2 k l (i : Int) (j : Int) ((a + 1 : Nat) : Int)) h fun k => ?_
    show gangwaylaw18_clash.l3 (k + 1) l (i : Int) (j : Int) (a : Int) (b : Int) = _
    rw [gangwaylaw18_clash.l3, if_pos (by omega), if_pos (by omega), if_neg (by omega), nextJ a (by omega)]
  | succ m ih =>
    intro b hb
    have hr : rowB l i j a b (m + 1) = (unlike (secOf l i a) (secOf l j b) || rowB l i j a (b + 1) m) := by
      unfold rowB
      rw [List.range'_succ, List.any_cons]
    have e : ∀ k, gangwaylaw18_clash.l3 (k + 1) l (i : Int) (j : Int) (a : Int) (b : Int) = if unlike (secOf l i a) (secOf l j b) = true then some true else gangwaylaw18_clash.l3 k l (i : Int) (j : Int) (a : Int) ((b + 1 : Nat) : Int) := by
      intro k
      rw [gangwaylaw18_clash.l3, if_pos (by omega), if_pos (by omega), if_pos (by omega), if_pos (by omega), if_pos (by omega), if_pos (by omega), if_pos (by omega), if_pos (by omega), nextJ b (by omega)]
      unfold unlike secOf
      by_cases h1 : (rd_T72 (rd_T36 l (i : Int)).f0 (a : Int)).f0.toList = (rd_T72 (rd_T36 l (j : Int)).f0 (b : Int)).f0.toList
      · by_cases h2 : (rd_T72 (rd_T36 l (i : Int)).f0 (a : Int)).f1 = (rd_T72 (rd_T36 l (j : Int)).f0 (b : Int)).f1
        · by_cases h3 : (rd_T72 (rd_T36 l (i : Int)).f0 (a : Int)).f2 = (rd_T72 (rd_T36 l (j : Int)).f0 (b : Int)).f2
          · simp [h1, h2, h3]
          · simp [h1, h2, h3]
        · simp [h1, h2]
      · simp [h1]
    rw [hr]
    cases hu : unlike (secOf l i a) (secOf l j b) with
    | true =>
      refine late_now fun k => ?_
      show gangwaylaw18_clash.l3 (k + 1) l (i : Int) (j : Int) (a : Int) (b : Int) = _
      rw [e, if_pos hu]
      rfl
    | false =>
      rw [Bool.false_or]
      refine late_step (ih (b + 1) (by omega)) fun k => ?_
      show gangwaylaw18_clash.l3 (k + 1) l (i : Int) (j : Int) (a : Int) (b : Int) = _
      rw [e, if_neg (by rw [hu]; simp)]
theorem clash_l2 (i j : Nat) (hi : i < l.length) (hj : j < l.length) (r : Bool) (h : Late (fun k => gangwaylaw18_clash.l1 k l (i : Int) ((j + 1 : Nat) : Int)) r) : ∀ (m a : Nat), a + m = (rd_T36 l (i : Int)).f0.length → Late (fun k => gangwaylaw18_clash.l2 k l (i : Int) (j : Int) (a : Int)) (pairB l i j a m || r) := by
  intro m
  induction m with
  | zero =>
    intro a ha
    refine late_step (g := fun k => gangwaylaw18_clash.l1 k l (i : Int) ((j + 1 : Nat) : Int)) h fun k => ?_
    show gangwaylaw18_clash.l2 (k + 1) l (i : Int) (j : Int) (a : Int) = _
    rw [gangwaylaw18_clash.l2, if_pos (by omega), if_pos (by omega), if_neg (by omega), nextJ j (by omega)]
  | succ m ih =>
    intro a ha
    have hr : pairB l i j a (m + 1) = (rowB l i j a 0 (rd_T36 l (j : Int)).f0.length || pairB l i j (a + 1) m) := by
      unfold pairB
      rw [List.range'_succ, List.any_cons]
    rw [hr, Bool.or_assoc]
    refine late_step (clash_l3 l hl hs i j a hi hj (by omega) _ (ih (a + 1) (by omega)) (rd_T36 l (j : Int)).f0.length 0 (by omega)) fun k => ?_
    show gangwaylaw18_clash.l2 (k + 1) l (i : Int) (j : Int) (a : Int) = _
    rw [gangwaylaw18_clash.l2, if_pos (by omega), if_pos (by omega), if_pos (by omega)]
    rfl
theorem clash_l1 (i : Nat) (hi : i < l.length) (r : Bool) (h : Late (fun k => gangwaylaw18_clash.l0 k l ((i + 1 : Nat) : Int)) r) : ∀ (m j : Nat), j + m = i → Late (fun k => gangwaylaw18_clash.l1 k l (i : Int) (j : Int)) (fileB l i j m || r) := by
  intro m
  induction m with
  | zero =>
    intro j hj
    refine late_step (g := fun k => gangwaylaw18_clash.l0 k l ((i + 1 : Nat) : Int)) h fun k => ?_
    show gangwaylaw18_clash.l1 (k + 1) l (i : Int) (j : Int) = _
    rw [gangwaylaw18_clash.l1, if_neg (by omega), nextJ i (by omega)]
  | succ m ih =>
    intro j hj
    have hr : fileB l i j (m + 1) = (pairB l i j 0 (rd_T36 l (i : Int)).f0.length || fileB l i (j + 1) m) := by
      unfold fileB
      rw [List.range'_succ, List.any_cons]
    rw [hr, Bool.or_assoc]
    refine late_step (clash_l2 l hl hs i j hi (by omega) _ (ih (j + 1) (by omega)) (rd_T36 l (i : Int)).f0.length 0 (by omega)) fun k => ?_
    show gangwaylaw18_clash.l1 (k + 1) l (i : Int) (j : Int) = _
    rw [gangwaylaw18_clash.l1, if_pos (by omega)]
    rfl
theorem clash_l0 : ∀ (m i : Nat), i + m = l.length → Late (fun k => gangwaylaw18_clash.l0 k l (i : Int)) (clashB l i m) := by
  intro m
  induction m with
  | zero =>
    intro i hi
    refine late_now fun k => ?_
    show gangwaylaw18_clash.l0 (k + 1) l (i : Int) = _
    rw [gangwaylaw18_clash.l0, if_neg (by omega)]
    rfl
  | succ m ih =>
    intro i hi
    have hr : clashB l i (m + 1) = (fileB l i 0 i || clashB l (i + 1) m) := by
      unfold clashB
      rw [List.range'_succ, List.any_cons]
    rw [hr]
    refine late_step (clash_l1 l hl hs i (by omega) _ (ih (i + 1) (by omega)) i 0 (by omega)) fun k => ?_
    show gangwaylaw18_clash.l0 (k + 1) l (i : Int) = _
    rw [gangwaylaw18_clash.l0, if_pos (by omega)]
    rfl
end
theorem clash_f (l : List S36) (h : checkR l = 0) : Late (fun k => gangwaylaw18_clash.f k l) (clashB l 0 l.length) := by
  have hf := (fits_of h).1
  exact clash_l0 l hf.1 (fun i hi => (hf.2 i hi).2.1) l.length 0 (by omega)
/-- two files' sections that are unlike -/
theorem clashB_iff (l : List S36) : clashB l 0 l.length = true ↔ ∃ i j a b : Nat, i < l.length ∧ j < i ∧ a < (rd_T36 l (i : Int)).f0.length ∧ b < (rd_T36 l (j : Int)).f0.length ∧ unlike (secOf l i a) (secOf l j b) = true := by
  unfold clashB fileB pairB rowB
  simp only [List.any_eq_true, List.mem_range'_1, Nat.zero_le, true_and, Nat.zero_add]
  constructor
  · rintro ⟨i, hi, j, hj, a, ha, b, hb, hu⟩
    exact ⟨i, j, a, b, hi, hj, ha, hb, hu⟩
  · rintro ⟨i, j, a, b, hi, hj, ha, hb, hu⟩
    exact ⟨i, hi, j, hj, a, ha, b, hb, hu⟩
theorem unlike_iff (x y : Sv) : unlike x y = true ↔ x.f0.toList = y.f0.toList ∧ (x.f1 ≠ y.f1 ∨ x.f2 ≠ y.f2) := by
  unfold unlike
  simp only [Bool.and_eq_true, beq_iff_eq, Bool.not_eq_true', Bool.and_eq_false_iff, beq_eq_false_iff_ne]
theorem mem_secs (l : List S36) (s : Sv) : s ∈ secs l ↔ ∃ i a : Nat, i < l.length ∧ a < (rd_T36 l (i : Int)).f0.length ∧ secOf l i a = s := by
  unfold secs secOf
  simp only [List.mem_flatMap, List.mem_map, List.mem_range]
  constructor
  · rintro ⟨i, hi, a, ha, e⟩
    exact ⟨i, a, hi, ha, e⟩
  · rintro ⟨i, a, hi, ha, e⟩
    exact ⟨i, hi, a, ha, e⟩
/-- names within a file stand once -/
theorem names_once {f : S36} (h : symCheck f.f1 (namesOf f) = 0) (a b : Nat) (hab : a < b) (hb : b < f.f0.length) : (rd_T72 f.f0 (a : Int)).f0.toList ≠ (rd_T72 f.f0 (b : Int)).f0.toList := by
  have hl : (namesOf f).length = f.f0.length := by unfold namesOf; rw [List.length_map]
  have h1 := (symCheck_ok h).2.2.2.2.1 b (by omega)
  unfold secBad at h1
  simp only [Bool.or_eq_false_iff] at h1
  have h2 := h1.2
  unfold Sym.among at h2
  rw [List.any_eq_false] at h2
  have ea : rd_T72 f.f0 (a : Int) = f.f0[a]'(by omega) := by simp [rd_T72, List.getD, show a < f.f0.length by omega]
  have eb : rd_T72 f.f0 (b : Int) = f.f0[b]'(by omega) := by simp [rd_T72, List.getD, show b < f.f0.length by omega]
  have en : rdOf ByteArray.empty (namesOf f) (b : Int) = (f.f0[b]'(by omega)).f0 := by simp [rdOf, namesOf, List.getD, hb]
  rw [en] at h2
  have hm : (f.f0[a]'(by omega)).f0 ∈ (namesOf f).take b := by
    rw [List.mem_iff_getElem]
    refine ⟨a, by rw [List.length_take]; omega, ?_⟩
    simp [namesOf]
  have h3 := h2 _ hm
  rw [ea, eb, ByteArray.toList_eq, ByteArray.toList_eq]
  intro e
  exact h3 (by rw [e]; simp)
theorem mem_rise2 {α : Type} {tb : List (Key × α)} {n : ByteArray} (h : n.data.toList ∈ tb.map (·.1)) : n ∈ rise tb := by
  obtain ⟨p, hp, e⟩ := List.mem_map.1 h
  unfold rise risen
  refine List.mem_map.2 ⟨n.data.toList, ?_, bytes_eq (asStr_data _)⟩
  rw [List.mem_mergeSort, List.map_map]
  exact List.mem_map.2 ⟨p, hp, by simp only [Function.comp, asStr_data]; exact e⟩
theorem clash_told (l : List S36) (h : checkR l = 0) : clashB l 0 l.length = true ↔ ∃ n ∈ rise (kindsAt l l.length), (lk zK (kindsAt l l.length) n).clash = true := by
  rw [clashB_iff]
  constructor
  · rintro ⟨i, j, a, b, hi, hj, ha, hb, hu⟩
    obtain ⟨hu1, hu2⟩ := (unlike_iff _ _).1 hu
    have hs1 : secOf l i a ∈ secs l := (mem_secs _ _).2 ⟨i, a, hi, ha, rfl⟩
    have hs2 : secOf l j b ∈ secs l := (mem_secs _ _).2 ⟨j, b, by omega, hb, rfl⟩
    refine ⟨(secOf l i a).f0, mem_rise2 ?_, ?_⟩
    · rw [kinds_secs, keysK_fold]
      exact .inr ⟨_, hs1, rfl⟩
    · rw [kinds_secs, lkK_fold]
      refine (toldK _).clash.2 ⟨secOf l i a, List.mem_filter.2 ⟨hs1, by simp [named]⟩, secOf l j b, List.mem_filter.2 ⟨hs2, ?_⟩, hu2⟩
      unfold named
      rw [ByteArray.toList_eq, ByteArray.toList_eq] at hu1
      rw [hu1]
      simp
  · rintro ⟨n, _, hc⟩
    rw [kinds_secs, lkK_fold] at hc
    obtain ⟨s, hs, t, ht, hu⟩ := (toldK _).clash.1 hc
    rw [List.mem_filter] at hs ht
    obtain ⟨i, a, hi, ha, rfl⟩ := (mem_secs _ _).1 hs.1
    obtain ⟨j, b, hj, hb, rfl⟩ := (mem_secs _ _).1 ht.1
    have hn : (secOf l i a).f0.toList = (secOf l j b).f0.toList := by
      have h1 := hs.2
      have h2 := ht.2
      unfold named at h1 h2
      simp only [beq_iff_eq] at h1 h2
      rw [ByteArray.toList_eq, ByteArray.toList_eq, h1, h2]
    rcases Nat.lt_trichotomy i j with hij | rfl | hij
    · refine ⟨j, i, b, a, hj, hij, hb, ha, (unlike_iff _ _).2 ⟨hn.symm, ?_⟩⟩
      rcases hu with hu | hu
      · exact .inl (Ne.symm hu)
      · exact .inr (Ne.symm hu)
    · have hf := sym_zero ((fits_of h).2 _ (rd_mem l i hi))
      rcases Nat.lt_trichotomy a b with hab | rfl | hab
      · exact absurd hn (names_once hf a b hab hb)
      · rcases hu with hu | hu <;> exact absurd rfl hu
      · exact absurd hn.symm (names_once hf b a hab ha)
    · exact ⟨i, j, a, b, hi, hij, ha, hb, (unlike_iff _ _).2 ⟨hn, hu⟩⟩
end Go.Proofs.Ytibkcnlcmempgaa.Res
end
section
namespace Go.Proofs.Ytibkcnlcmempgaa.Res
set_option linter.unusedVariables false
set_option linter.unusedSimpArgs false
open Go.RowKit Go.Proofs.Ytibkcnlcmempgaa.G Go.Proofs.YtibkcnlcmempgaaW.PrintWords
/-- the one strong definition -/
theorem the_strong {l : List S36} {n : ByteArray} (h : (lk zM (namesAt l l.length) n).strong = 1) : ∃ e, ((evs l).filter (tells n)).filter isStrong = [e] ∧ entryF n (lk zM (namesAt l l.length) n) = entE e ∧ e.2.2.f0 = n := by
  have ht := told_of l n
  have hl : (((evs l).filter (tells n)).filter isStrong).length = 1 := by
    have := ht.strong
    rw [h, List.countP_eq_length_filter] at this
    omega
  obtain ⟨e, hx⟩ := List.length_eq_one_iff.1 hl
  have hm : e ∈ ((evs l).filter (tells n)).filter isStrong := by rw [hx]; exact List.mem_singleton.2 rfl
  rw [List.mem_filter, List.mem_filter] at hm
  refine ⟨e, hx, ?_, ?_⟩
  · unfold entryF
    rw [if_pos (by omega), ht.first e [] hx]
  · have h2 := hm.1.2
    unfold tells at h2
    simp only [Bool.and_eq_true, decide_eq_true_eq, beq_iff_eq] at h2
    exact bytes_eq h2.2
theorem toList_eq {a b : ByteArray} (h : a.toList = b.toList) : a = b := by
  rw [ByteArray.toList_eq, ByteArray.toList_eq] at h
  exact bytes_eq h
theorem code_ne {l : List S36} {f : S26} (h : f ∈ faultsS l) : f.f0 ≠ 0 := by
  unfold faultsS at h
  split at h
  · cases h
  · unfold faultsFS wrongS at h
    simp only [List.mem_append, List.mem_map] at h
    rcases h with ((⟨n, _, rfl⟩ | ⟨n, _, rfl⟩) | ⟨n, _, rfl⟩) | ⟨n, _, rfl⟩ <;> exact fun h => by cases h
theorem allP_ok {l : List S36} (h : (allP l).2.1 = 0) : checkR l = 0 ∧ faultsS l = [] ∧ (allP l).1 = entriesF (namesAt l l.length) := by
  by_cases hc : checkR l = 0
  · cases hf : faultsS l with
    | nil => exact ⟨hc, rfl, by unfold allP; rw [if_neg (by simp [hc]), hf]⟩
    | cons f fs =>
      have hn := code_ne (l := l) (f := f) (by rw [hf]; exact List.mem_cons_self ..)
      unfold allP at h
      rw [if_neg (by simp [hc]), hf] at h
      exact absurd h hn
  · unfold allP at h
    rw [if_pos hc] at h
    exact absurd h hc
theorem allP_bad {l : List S36} (h : (allP l).2.1 ≠ 0) : (allP l).1 = [] := by
  by_cases hc : checkR l = 0
  · cases hf : faultsS l with
    | nil =>
      unfold allP at h
      rw [if_neg (by simp [hc]), hf] at h
      exact absurd rfl h
    | cons f fs => unfold allP; rw [if_neg (by simp [hc]), hf]
  · unfold allP
    rw [if_pos hc]
end Go.Proofs.Ytibkcnlcmempgaa.Res
end
section
namespace Go.Proofs.Ytibkcnlcmempgaa.Pure
open Go.RowKit Go.Proofs.Ytibkcnlcmempgaa.G Go.Proofs.Ytibkcnlcmempgaa.Stmt Go.Proofs.YtibkcnlcmempgaaW.PrintWords Go.Proofs.Ytibkcnlcmempgaa.Res
set_option linter.unusedVariables false
set_option linter.unusedSimpArgs false
/-- a symbol that makes the objects bad -/
def badE (l : List S36) (e : Ev) : Bool := !(e.2.2.f4 == 0) && (decide (1 < (evs l).countP (strongOf e.2.2.f0)) || ((evs l).any (tlsOf e.2.2.f0) && (evs l).any (plainOf' e.2.2.f0)) || ((e.2.2.f1.toList == []) && (e.2.2.f4 == 1) && !(evs l).any (defOf e.2.2.f0)))
theorem just_step (l : List S36) (h : checkR l = 0) (t : List S42) (E : Int) (T : ByteArray) (bad : Bool) (i j : Nat) (hi : i < l.length) (hj : j < (rd_T36 l (i : Int)).f1.length) :
    ∃ K, ∀ k, K ≤ k → gangwaylaw18_ResolveJust.l1 (k + 1) l t bad (i : Int) (j : Int) E T = gangwaylaw18_ResolveJust.l1 k l t (bad || badE l (i, j, symOf l i j)) (i : Int) ((j + 1 : Nat) : Int) E T := by
  have hf := (fits_of h).1
  have hs := (hf.2 i hi).1
  obtain ⟨n, hn⟩ : ∃ n, n = (symOf l i j).f0 := ⟨_, rfl⟩
  obtain ⟨K1, h1⟩ := strong_f l h n
  obtain ⟨K2, h2⟩ := mixed_f l h n
  obtain ⟨K3, h3⟩ := defined_f l h n
  refine ⟨K1 + K2 + K3, fun k hk => ?_⟩
  have a1 : gangwaylaw18_strong.f k l n = some _ := h1 k (by omega)
  have a2 : gangwaylaw18_mixed.f k l n = some _ := h2 k (by omega)
  have a3 : gangwaylaw18_defined.f k l n = some _ := h3 k (by omega)
  rw [gangwaylaw18_ResolveJust.l1, if_pos (by omega), if_pos (by omega), if_pos (by omega), if_pos (by omega), nextJ j (by omega)]
  show (if (symOf l i j).f4 = 0 then _ else (gangwaylaw18_strong.f k l (symOf l i j).f0).bind fun t116 => if bad = true then _ else if t116 > 1 then _ else (gangwaylaw18_mixed.f k l (symOf l i j).f0).bind fun t117 => if t117 = true then _ else if (symOf l i j).f1.toList = ([] : List UInt8) then if (symOf l i j).f4 = 1 then (gangwaylaw18_defined.f k l (symOf l i j).f0).bind fun t118 => _ else _ else _) = _
  rw [← hn, a1, a2, a3]
  simp only [Option.bind_some]
  have hbe : badE l (i, j, symOf l i j) = (!((symOf l i j).f4 == 0) && (decide (1 < (evs l).countP (strongOf n)) || ((evs l).any (tlsOf n) && (evs l).any (plainOf' n)) || (((symOf l i j).f1.toList == []) && ((symOf l i j).f4 == 1) && !(evs l).any (defOf n)))) := by rw [hn]; rfl
  rw [hbe]
  by_cases c0 : (symOf l i j).f4 = 0
  · rw [if_pos c0]
    simp [c0]
  · have b0 : ((symOf l i j).f4 == 0) = false := beq_eq_false_iff_ne.2 c0
    rw [if_neg c0, b0]
    cases bad with
    | true => rw [if_pos rfl]; rfl
    | false =>
      rw [if_neg (by simp)]
      by_cases c1 : 1 < (evs l).countP (strongOf n)
      · rw [if_pos (by omega), decide_eq_true c1]
        rfl
      · rw [if_neg (by omega), decide_eq_false c1]
        cases hm : ((evs l).any (tlsOf n) && (evs l).any (plainOf' n)) with
        | true => rw [if_pos rfl]; rfl
        | false =>
          rw [if_neg (by simp)]
          by_cases c2 : (symOf l i j).f1.toList = []
          · rw [if_pos c2]
            have b2 : ((symOf l i j).f1.toList == []) = true := by rw [c2]; rfl
            rw [b2]
            by_cases c3 : (symOf l i j).f4 = 1
            · have b3 : ((symOf l i j).f4 == 1) = true := by rw [c3]; rfl
              rw [if_pos c3, b3]
              cases (evs l).any (defOf n) <;> rfl
            · have b3 : ((symOf l i j).f4 == 1) = false := beq_eq_false_iff_ne.2 c3
              rw [if_neg c3, b3]
              cases (evs l).any (defOf n) <;> rfl
          · rw [if_neg c2]
            have b2 : ((symOf l i j).f1.toList == []) = false := beq_eq_false_iff_ne.2 c2
            rw [b2]
            rfl
theorem late_eq {α : Type} {f g : Nat → Option α} {r : α} (h : Late g r) (e : ∃ K, ∀ k, K ≤ k → f (k + 1) = g k) : Late f r := by
  obtain ⟨K, hK⟩ := h
  obtain ⟨K2, h2⟩ := e
  refine ⟨K + K2 + 1, fun k hk => ?_⟩
  obtain ⟨k', rfl⟩ : ∃ k', k = k' + 1 := ⟨k - 1, by omega⟩
  rw [h2 k' (by omega)]
  exact hK k' (by omega)
theorem just_l1 (l : List S36) (h : checkR l = 0) (t : List S42) (E : Int) (T : ByteArray) (i : Nat) (hi : i < l.length) (r : Bool) : ∀ (m j : Nat) (bad : Bool), j + m = (rd_T36 l (i : Int)).f1.length →
    Late (fun k => gangwaylaw18_ResolveJust.l0 k l t (bad || (fileEvs l i j m).any (badE l)) ((i + 1 : Nat) : Int) E T) r → Late (fun k => gangwaylaw18_ResolveJust.l1 k l t bad (i : Int) (j : Int) E T) r := by
  have hf := (fits_of h).1
  have hl := hf.1
  intro m
  induction m with
  | zero =>
    intro j bad hj hr
    refine late_step hr fun k => ?_
    show gangwaylaw18_ResolveJust.l1 (k + 1) l t bad (i : Int) (j : Int) E T = _
    rw [gangwaylaw18_ResolveJust.l1, if_pos (by omega), if_pos (by omega), if_neg (by omega), nextJ i (by omega)]
    simp [fileEvs]
  | succ m ih =>
    intro j bad hj hr
    have hc : (fileEvs l i j (m + 1)).any (badE l) = (badE l (i, j, symOf l i j) || (fileEvs l i (j + 1) m).any (badE l)) := by
      unfold fileEvs
      rw [List.range'_succ, List.map_cons, List.any_cons]
    rw [hc, ← Bool.or_assoc] at hr
    exact late_eq (ih (j + 1) _ (by omega) hr) (just_step l h t E T bad i j hi (by omega))
theorem just_l0 (l : List S36) (h : checkR l = 0) (t : List S42) (E : Int) (T : ByteArray) (h2 : Late (fun k => gangwaylaw18_ResolveJust.l2 k l t 0) true) : ∀ (m i : Nat) (bad : Bool), i + m = l.length → (bad || (restEvs l i m).any (badE l)) = (E != 0) →
    Late (fun k => gangwaylaw18_ResolveJust.l0 k l t bad (i : Int) E T) true := by
  intro m
  induction m with
  | zero =>
    intro i bad hi hb
    refine late_step h2 fun k => ?_
    show gangwaylaw18_ResolveJust.l0 (k + 1) l t bad (i : Int) E T = _
    have hb' : bad = (E != 0) := by rw [← hb]; simp [restEvs]
    rw [gangwaylaw18_ResolveJust.l0, if_neg (by omega)]
    simp only [gangwaylaw18_num.f, Option.bind_some]
    rw [if_neg (by rw [hb']; simp)]
  | succ m ih =>
    intro i bad hi hb
    have hc : (restEvs l i (m + 1)).any (badE l) = ((fileEvs l i 0 (rd_T36 l (i : Int)).f1.length).any (badE l) || (restEvs l (i + 1) m).any (badE l)) := by
      unfold restEvs
      rw [List.range'_succ, List.flatMap_cons, List.any_append]
    rw [hc, ← Bool.or_assoc] at hb
    refine late_step (g := fun k => gangwaylaw18_ResolveJust.l1 k l t bad (i : Int) ((0 : Nat) : Int) E T) (just_l1 l h t E T i (by omega) _ (rd_T36 l (i : Int)).f1.length 0 bad (by omega) (ih (i + 1) _ (by omega) hb)) fun k => ?_
    show gangwaylaw18_ResolveJust.l0 (k + 1) l t bad (i : Int) E T = _
    rw [gangwaylaw18_ResolveJust.l0, if_pos (by omega)]
    rfl
theorem name_same (e : Ev) (n : ByteArray) : tells n e = true ↔ e.2.2.f4 ≠ 0 ∧ e.2.2.f0 = n := by
  unfold tells
  simp only [Bool.and_eq_true, decide_eq_true_eq, beq_iff_eq]
  constructor
  · rintro ⟨a, b⟩
    exact ⟨a, bytes_eq b⟩
  · rintro ⟨a, rfl⟩
    exact ⟨a, rfl⟩
theorem mem_names (l : List S36) (n : ByteArray) : n ∈ rise (namesAt l l.length) ↔ ∃ e ∈ evs l, tells n e = true := by
  constructor
  · intro hm
    have h1 := rise_mem hm
    rw [names_evs, keys_fold] at h1
    rcases h1 with h1 | ⟨e, he, h2, h3⟩
    · cases h1
    · exact ⟨e, he, (name_same e n).2 ⟨h2, bytes_eq h3⟩⟩
  · rintro ⟨e, he, ht⟩
    obtain ⟨h1, rfl⟩ := (name_same e n).1 ht
    refine mem_rise2 ?_
    rw [names_evs, keys_fold]
    exact .inr ⟨e, he, h1, rfl⟩
theorem defined_told (l : List S36) (n : ByteArray) : (lk zM (namesAt l l.length) n).strong + (lk zM (namesAt l l.length) n).weak = 0 ↔ (evs l).any (defOf n) = false := by
  rw [(told_of l n).strong, (told_of l n).weak]
  have h1 : (((evs l).filter (tells n)).countP isStrong : Int) + (((evs l).filter (tells n)).countP isWeak : Int) = 0 ↔ ((evs l).filter (tells n)).countP isStrong = 0 ∧ ((evs l).filter (tells n)).countP isWeak = 0 := by omega
  rw [h1, List.countP_eq_zero, List.countP_eq_zero, List.any_eq_false]
  constructor
  · rintro ⟨ha, hb⟩ e he hd
    unfold defOf at hd
    simp only [Bool.and_eq_true, beq_iff_eq, Bool.not_eq_true', beq_eq_false_iff_ne] at hd
    have hn : e.2.2.f0 = n := by
      have := hd.1
      rw [ByteArray.toList_eq, ByteArray.toList_eq] at this
      exact bytes_eq this
    have hm : e ∈ (evs l).filter (tells n) := List.mem_filter.2 ⟨he, (name_same e n).2 ⟨hd.2.1, hn⟩⟩
    have h2 := ha e hm
    have h3 := hb e hm
    unfold isStrong at h2
    unfold isWeak at h3
    have hne : (e.2.2.f1.toList == []) = false := beq_eq_false_iff_ne.2 hd.2.2
    rw [hne] at h2 h3
    cases hq : (e.2.2.f4 == 1) <;> rw [hq] at h2 h3 <;> simp at h2 h3
  · intro ha
    have key : ∀ e ∈ (evs l).filter (tells n), e.2.2.f1.toList = [] := by
      intro e hm
      obtain ⟨he, ht⟩ := List.mem_filter.1 hm
      obtain ⟨h2, rfl⟩ := (name_same e n).1 ht
      have h3 := ha e he
      unfold defOf at h3
      simp only [Bool.and_eq_true, beq_iff_eq, Bool.not_eq_true', beq_eq_false_iff_ne, not_and, Decidable.not_not] at h3
      exact h3 trivial h2
    refine ⟨fun e hm hq => ?_, fun e hm hq => ?_⟩
    · unfold isStrong at hq
      rw [key e hm] at hq
      simp at hq
    · unfold isWeak at hq
      rw [key e hm] at hq
      simp at hq
theorem needed_told (l : List S36) (n : ByteArray) : 0 < (lk zM (namesAt l l.length) n).needed ↔ ∃ e ∈ evs l, tells n e = true ∧ e.2.2.f1.toList = [] ∧ e.2.2.f4 = 1 := by
  rw [(told_of l n).needed]
  have h1 : (0 : Int) < (((evs l).filter (tells n)).countP isNeed : Int) ↔ 0 < ((evs l).filter (tells n)).countP isNeed := by omega
  rw [h1, List.countP_pos_iff]
  constructor
  · rintro ⟨e, hm, hq⟩
    obtain ⟨he, ht⟩ := List.mem_filter.1 hm
    unfold isNeed at hq
    simp only [Bool.and_eq_true, beq_iff_eq] at hq
    exact ⟨e, he, ht, hq.1, hq.2⟩
  · rintro ⟨e, he, ht, h2, h3⟩
    refine ⟨e, List.mem_filter.2 ⟨he, ht⟩, ?_⟩
    unfold isNeed
    rw [h2, h3]
    rfl
/-- the law's word on the objects is the program's -/
theorem bad_told (l : List S36) (h : checkR l = 0) : (clashB l 0 l.length || (evs l).any (badE l)) = true ↔ faultsS l ≠ [] := by
  have hff : faultsS l = faultsFS (namesAt l l.length) (kindsAt l l.length) := by unfold faultsS; rw [if_neg (by simp [h])]
  have hw : ∀ (e : Int) {α : Type} (z : α) (p : α → Bool) (tb : List (Key × α)), wrongS e z p tb ≠ [] ↔ ∃ n ∈ rise tb, p (lk z tb n) = true := by
    intro e α z p tb
    unfold wrongS
    rw [Ne, List.map_eq_nil_iff, List.filter_eq_nil_iff]
    constructor
    · intro hn
      exact Classical.byContradiction fun hc => hn fun n hm hp => hc ⟨n, hm, hp⟩
    · rintro ⟨n, hm, hp⟩ hc
      exact hc n hm hp
  have hE : (evs l).any (badE l) = true ↔ ∃ n ∈ rise (namesAt l l.length), twice (lk zM (namesAt l l.length) n) = true ∨ lacks (lk zM (namesAt l l.length) n) = true ∨ mixed (lk zM (namesAt l l.length) n) = true := by
    rw [List.any_eq_true]
    constructor
    · rintro ⟨e, he, hb⟩
      unfold badE at hb
      simp only [Bool.and_eq_true, Bool.or_eq_true, Bool.not_eq_true', beq_eq_false_iff_ne, decide_eq_true_eq, beq_iff_eq] at hb
      obtain ⟨h4, hb⟩ := hb
      have ht : tells e.2.2.f0 e = true := (name_same e _).2 ⟨h4, rfl⟩
      refine ⟨e.2.2.f0, (mem_names l _).2 ⟨e, he, ht⟩, ?_⟩
      rcases hb with (hb | hb) | hb
      · left
        unfold twice
        rw [strong_told]
        exact decide_eq_true (by omega)
      · right; right
        rw [mixed_told, hb.1, hb.2]
        rfl
      · right; left
        unfold lacks
        have h1 := (defined_told l e.2.2.f0).2 hb.2
        have h2 := (needed_told l e.2.2.f0).2 ⟨e, he, ht, hb.1.1, hb.1.2⟩
        rw [h1, decide_eq_true h2]
        rfl
    · rintro ⟨n, hn, hb⟩
      obtain ⟨e, he, ht⟩ := (mem_names l n).1 hn
      rcases hb with hb | hb | hb
      · obtain ⟨h4, rfl⟩ := (name_same e n).1 ht
        refine ⟨e, he, ?_⟩
        unfold badE
        unfold twice at hb
        rw [strong_told] at hb
        have hb' := of_decide_eq_true hb
        have b4 : (e.2.2.f4 == 0) = false := beq_eq_false_iff_ne.2 h4
        rw [b4, decide_eq_true (show 1 < (evs l).countP (strongOf e.2.2.f0) by omega)]
        rfl
      · unfold lacks at hb
        simp only [Bool.and_eq_true, beq_iff_eq, decide_eq_true_eq] at hb
        obtain ⟨e', he', ht', h2, h3⟩ := (needed_told l n).1 hb.2
        obtain ⟨h4, rfl⟩ := (name_same e' n).1 ht'
        refine ⟨e', he', ?_⟩
        have h5 := (defined_told l e'.2.2.f0).1 hb.1
        unfold badE
        rw [h5, h2, h3]
        simp
      · obtain ⟨h4, rfl⟩ := (name_same e n).1 ht
        refine ⟨e, he, ?_⟩
        unfold badE
        rw [mixed_told] at hb
        have b4 : (e.2.2.f4 == 0) = false := beq_eq_false_iff_ne.2 h4
        rw [b4, hb]
        simp
  have hne : faultsS l ≠ [] ↔ wrongS 180 zM twice (namesAt l l.length) ≠ [] ∨ wrongS 181 zM lacks (namesAt l l.length) ≠ [] ∨ wrongS 182 zM mixed (namesAt l l.length) ≠ [] ∨ wrongS 182 zK Knd.clash (kindsAt l l.length) ≠ [] := by
    rw [hff]
    unfold faultsFS
    simp only [Ne, List.append_eq_nil_iff]
    constructor
    · intro hc
      by_cases p1 : wrongS 180 zM twice (namesAt l l.length) = []
      · by_cases p2 : wrongS 181 zM lacks (namesAt l l.length) = []
        · by_cases p3 : wrongS 182 zM mixed (namesAt l l.length) = []
          · exact .inr (.inr (.inr fun p4 => hc ⟨⟨⟨p1, p2⟩, p3⟩, p4⟩))
          · exact .inr (.inr (.inl p3))
        · exact .inr (.inl p2)
      · exact .inl p1
    · rintro (hc | hc | hc | hc) ⟨⟨⟨p1, p2⟩, p3⟩, p4⟩
      · exact hc p1
      · exact hc p2
      · exact hc p3
      · exact hc p4
  rw [hne, hw, hw, hw, hw, Bool.or_eq_true, clash_told l h, hE]
  constructor
  · rintro (⟨n, hn, hb⟩ | ⟨n, hn, hb | hb | hb⟩)
    · exact .inr (.inr (.inr ⟨n, hn, hb⟩))
    · exact .inl ⟨n, hn, hb⟩
    · exact .inr (.inl ⟨n, hn, hb⟩)
    · exact .inr (.inr (.inl ⟨n, hn, hb⟩))
  · rintro (⟨n, hn, hb⟩ | ⟨n, hn, hb⟩ | ⟨n, hn, hb⟩ | ⟨n, hn, hb⟩)
    · exact .inr ⟨n, hn, .inl hb⟩
    · exact .inr ⟨n, hn, .inr (.inl hb)⟩
    · exact .inr ⟨n, hn, .inr (.inr hb)⟩
    · exact .inl ⟨n, hn, hb⟩
theorem weak_at {l : List S36} {n : ByteArray} (h : 0 < (lk zM (namesAt l l.length) n).weak) : ∃ e ∈ evs l, tells n e = true ∧ isWeak e = true ∧ (lk zM (namesAt l l.length) n).second = entE e := by
  have ht := told_of l n
  cases hf : ((evs l).filter (tells n)).filter isWeak with
  | nil =>
    have := ht.weak
    rw [List.countP_eq_length_filter, hf] at this
    simp at this
    omega
  | cons e r =>
    have hm : e ∈ ((evs l).filter (tells n)).filter isWeak := by rw [hf]; exact List.mem_cons_self ..
    rw [List.mem_filter, List.mem_filter] at hm
    exact ⟨e, hm.1.1, hm.1.2, hm.2, ht.second e r hf⟩
/-- an entry that is a definition -/
theorem just_def (l : List S36) (h : checkR l = 0) (t : List S42) (i : Nat) (hi : i < t.length) (e : Ev) (he : e ∈ evs l) (hx : rd_T42 t (i : Int) = entE e) (h1 : e.2.2.f1.toList ≠ []) (h4 : (e.2.2.f4 == 1) = decide (0 < (evs l).countP (strongOf e.2.2.f0))) (hb : t.length < 1000000000000000)
    (hr : Late (fun k => gangwaylaw18_ResolveJust.l2 k l t ((i + 1 : Nat) : Int)) true) : Late (fun k => gangwaylaw18_ResolveJust.l2 k l t (i : Int)) true := by
  obtain ⟨g1, g2, g3⟩ := evs_in he
  obtain ⟨a, b, s⟩ := e
  have g1 : a < l.length := g1
  have g2 : b < (rd_T36 l (a : Int)).f1.length := g2
  have g3 : s = rd_T38 (rd_T36 l (a : Int)).f1 (b : Int) := g3
  have h1 : s.f1.toList ≠ [] := h1
  have h4 : (s.f4 == 1) = decide (0 < (evs l).countP (strongOf s.f0)) := h4
  have x0 : (rd_T42 t (i : Int)).f0 = s.f0 := by rw [hx]; rfl
  have x1 : (rd_T42 t (i : Int)).f1 = (a : Int) := by rw [hx]; rfl
  have x2 : (rd_T42 t (i : Int)).f2 = (b : Int) := by rw [hx]; rfl
  have x3 : (rd_T42 t (i : Int)).f3 = s.f4 := by rw [hx]; rfl
  have x4 : (rd_T42 t (i : Int)).f4 = s.f5 := by rw [hx]; rfl
  obtain ⟨K1, hK⟩ := strong_f l h s.f0
  refine late_eq (g := fun k => gangwaylaw18_ResolveJust.j3 k l t (i : Int) false s.f0 (a : Int) (b : Int) s.f4 s.f5) (late_eq hr ⟨K1, fun k hk => ?_⟩) ⟨0, fun k _ => ?_⟩
  · have a1 : gangwaylaw18_strong.f k l s.f0 = some _ := hK k hk
    show gangwaylaw18_ResolveJust.j3 (k + 1) l t (i : Int) false s.f0 (a : Int) (b : Int) s.f4 s.f5 = _
    rw [gangwaylaw18_ResolveJust.j3, if_neg (by simp), if_pos (by omega), if_pos (by omega), if_pos (by omega), if_pos (by omega), ← g3, if_pos rfl, if_neg h1, if_pos rfl, a1]
    simp only [Option.bind_some]
    have h5 : decide ((((evs l).countP (strongOf s.f0) : Nat) : Int) > 0) = (s.f4 == 1) := by
      rw [h4]
      by_cases c : 0 < (evs l).countP (strongOf s.f0)
      · rw [decide_eq_true c, decide_eq_true (by omega)]
      · rw [decide_eq_false c, decide_eq_false (by omega)]
    rw [h5, if_neg (by simp), nextJ i (by omega)]
  · show gangwaylaw18_ResolveJust.l2 (k + 1) l t (i : Int) = _
    rw [gangwaylaw18_ResolveJust.l2, if_pos (by omega), if_pos (by omega), x0, x1, x2, x3, x4, if_neg (by omega), if_neg (by omega), if_neg (by omega), if_pos (by omega), if_pos (by omega), decide_eq_false (by omega)]
theorem just_l2 (l : List S36) (h : checkR l = 0) (hf : faultsS l = []) : ∀ (m i : Nat), i + m = (entriesF (namesAt l l.length)).length → Late (fun k => gangwaylaw18_ResolveJust.l2 k l (entriesF (namesAt l l.length)) (i : Int)) true := by
  have hlen : (entriesF (namesAt l l.length)).length = (rise (namesAt l l.length)).length := List.length_map _
  have hsm : (rise (namesAt l l.length)).length ≤ 32000 := by rw [rise_len]; exact (names_32 l (fits_of h).1).1
  intro m
  induction m with
  | zero =>
    intro i hi
    refine late_now fun k => ?_
    show gangwaylaw18_ResolveJust.l2 (k + 1) l (entriesF (namesAt l l.length)) (i : Int) = _
    rw [gangwaylaw18_ResolveJust.l2, if_neg (by omega)]
    rfl
  | succ m ih =>
    intro i hi
    have hil : i < (rise (namesAt l l.length)).length := by omega
    obtain ⟨n, hn⟩ : ∃ n, n = (rise (namesAt l l.length))[i] := ⟨_, rfl⟩
    have hx : rd_T42 (entriesF (namesAt l l.length)) (i : Int) = entryF n (lk zM (namesAt l l.length) n) := by
      subst hn
      simp [rd_T42, entriesF, List.getD, hil]
    have hmem : n ∈ rise (namesAt l l.length) := by rw [hn]; exact List.getElem_mem _
    have hr := ih (i + 1) (by omega)
    rcases strong_one h hf n hmem with hs | hs
    · have hc : (evs l).countP (strongOf n) = 0 := by have := strong_told l n; omega
      by_cases hw : 0 < (lk zM (namesAt l l.length) n).weak
      · obtain ⟨e, he, ht, hwk, hse⟩ := weak_at hw
        obtain ⟨h4, rfl⟩ := (name_same e n).1 ht
        have he2 : entryF e.2.2.f0 (lk zM (namesAt l l.length) e.2.2.f0) = entE e := by
          unfold entryF
          rw [if_neg (by omega), if_pos hw, hse]
        unfold isWeak at hwk
        simp only [Bool.and_eq_true, Bool.not_eq_true', beq_eq_false_iff_ne] at hwk
        refine just_def l h _ i (by omega) e he (hx.trans he2) hwk.1 ?_ (by omega) hr
        rw [hc, beq_eq_false_iff_ne.2 hwk.2]
        rfl
      · have he2 : entryF n (lk zM (namesAt l l.length) n) = ⟨n, -1, -1, 2, 0⟩ := by
          unfold entryF
          rw [if_neg (by omega), if_neg hw]
        have hw0 : (lk zM (namesAt l l.length) n).weak = 0 := by have := (told_of l n).weak; omega
        obtain ⟨K1, hK⟩ := defined_f l h n
        have hd := (defined_told l n).1 (by omega)
        rw [hd] at hK
        refine late_eq hr ⟨K1, fun k hk => ?_⟩
        have a1 : gangwaylaw18_defined.f k l n = some _ := hK k hk
        show gangwaylaw18_ResolveJust.l2 (k + 1) l (entriesF (namesAt l l.length)) (i : Int) = _
        rw [gangwaylaw18_ResolveJust.l2, if_pos (by omega), if_pos (by omega), hx, he2, if_pos (by show (-1 : Int) < 0; omega), if_pos rfl, a1]
        simp only [Option.bind_some]
        rw [if_neg (by simp), nextJ i (by omega)]
    · obtain ⟨e, hfe, he2, rfl⟩ := the_strong hs
      have hm : e ∈ ((evs l).filter (tells e.2.2.f0)).filter isStrong := by rw [hfe]; exact List.mem_singleton.2 rfl
      rw [List.mem_filter, List.mem_filter] at hm
      have hst := hm.2
      unfold isStrong at hst
      simp only [Bool.and_eq_true, Bool.not_eq_true', beq_eq_false_iff_ne, beq_iff_eq] at hst
      have hc : (evs l).countP (strongOf e.2.2.f0) = 1 := by have := strong_told l e.2.2.f0; omega
      refine just_def l h _ i (by omega) e hm.1.1 (hx.trans he2) hst.1 ?_ (by omega) hr
      rw [hc, hst.2]
      rfl
theorem just_nil (l : List S36) : Late (fun k => gangwaylaw18_ResolveJust.l2 k l [] 0) true := by
  refine late_now fun k => ?_
  show gangwaylaw18_ResolveJust.l2 (k + 1) l [] 0 = _
  rw [gangwaylaw18_ResolveJust.l2, if_neg (by simp)]
  rfl
theorem just (l : List S36) (hs : smallB l = true) : ∃ k, gangwaylaw18_ResolveJust.f k l = some true := by
  have e1 : resolve_All.f l = some (allP l) := if_pos hs
  have e2 : resolve_Check.f l = some (checkR l) := if_pos hs
  by_cases hc : checkR l = 0
  · obtain ⟨K1, hK1⟩ := clash_f l hc
    have hb : (clashB l 0 l.length || (restEvs l 0 l.length).any (badE l)) = ((allP l).2.1 != 0) := by
      rw [← evs_rest]
      have hbt := bad_told l hc
      by_cases hE : (allP l).2.1 = 0
      · have hf := (allP_ok hE).2.1
        rw [hf] at hbt
        rw [hE]
        cases hq : (clashB l 0 l.length || (evs l).any (badE l)) with
        | false => rfl
        | true => exact absurd rfl (hbt.1 hq)
      · have hf : faultsS l ≠ [] := by
          intro hf
          apply hE
          unfold allP
          rw [if_neg (by simp [hc]), hf]
        rw [hbt.2 hf]
        simp [hE]
    have hl2 : Late (fun k => gangwaylaw18_ResolveJust.l2 k l (allP l).1 0) true := by
      by_cases hE : (allP l).2.1 = 0
      · obtain ⟨_, hf, he⟩ := allP_ok hE
        rw [he]
        exact just_l2 l hc hf (entriesF (namesAt l l.length)).length 0 (by omega)
      · rw [allP_bad hE]
        exact just_nil l
    obtain ⟨K2, hK2⟩ := just_l0 l hc (allP l).1 (allP l).2.1 (allP l).2.2 hl2 l.length 0 (clashB l 0 l.length) (by omega) hb
    refine ⟨K1 + K2, ?_⟩
    have a1 : gangwaylaw18_clash.f (K1 + K2) l = some _ := hK1 _ (by omega)
    have a2 : gangwaylaw18_ResolveJust.l0 (K1 + K2) l (allP l).1 (clashB l 0 l.length) 0 (allP l).2.1 (allP l).2.2 = some true := hK2 _ (by omega)
    unfold gangwaylaw18_ResolveJust.f
    rw [e1, e2]
    simp only [Option.bind_some, gangwaylaw18_num.f]
    rw [if_pos hc, a1]
    exact a2
  · have p1 : (allP l).1 = [] := by unfold allP; rw [if_pos hc]
    have p2 : (allP l).2.1 = checkR l := by unfold allP; rw [if_pos hc]
    refine ⟨0, ?_⟩
    unfold gangwaylaw18_ResolveJust.f
    rw [e1, e2]
    simp only [Option.bind_some, gangwaylaw18_num.f]
    rw [if_neg hc, p2, if_neg hc, p1, if_pos (by simp)]
    rfl
theorem ResolveJust : Stmt.ResolveJust := by
  intro l h
  refine just l ?_
  unfold smallB
  rw [List.all_eq_true]
  intro f hf
  have := ((h.2.2 f hf).1).1
  simpa using this
end Go.Proofs.Ytibkcnlcmempgaa.Pure
end
section
namespace Go.Proofs.Ytibkcnlcmempgaa.Opening
set_option linter.unusedVariables false
set_option linter.unusedSimpArgs false
open Go.ChangeShapes Go.WideShapes Go.Proofs.YtibkcnlcmempgaaW.PrintWords
/-- A datum of type t opens as a value of kind d: it is well (wf), and its bulk is at least its weight (wt). -/
structure Opens {α : Type} (P : Program) (t : TypeId) (d : Kd α) (wf : α → Prop) (wt : α → Nat) : Prop where
  cells : P.cellsOf t = d.sz
  op : ∀ {H : Type} {enc : TypeId × Value → H} {w : World} {base : Nat} {spare : Nat → Bool} {held : Bool} {fuel : Nat} {cs : List Value} {x : DataW H × List MemPlace},
    DataW.trod enc P w base spare held fuel t cs = some x → (∀ n ∈ x.1.weights P t, n ≤ 140737488351232) → ∃ a : α, d.K w a cs ∧ wf a ∧ wt a ≤ Rows.uptoBulk x.1
theorem opens_int {P : Program} {t : TypeId} (k : IntKind) (ht : P.underlying t = some (.int k)) (hc : P.cellsOf t = 1) : Opens P t (Kd.int k) (fun a => (Lit.int k a).wf = true) (fun _ => 1) :=
  ⟨hc, fun h _ => by
    obtain ⟨n, rfl, rfl, hw⟩ := DataW.trod_int ht h
    exact ⟨n, rfl, hw, by simp [Rows.uptoBulk]⟩⟩
theorem opens_string {P : Program} {t : TypeId} (ht : P.underlying t = some .string) (hc : P.cellsOf t = 1) : Opens P t Kd.string (fun a => a.size ≤ 140737488351232) (fun a => a.size + 1) :=
  ⟨hc, fun h hz => by
    obtain ⟨s, rfl, rfl, _⟩ := DataW.trod_string ht h
    have e : s.data.toList.length = s.size := by rw [Array.length_toList]; rfl
    refine ⟨s, rfl, ?_, by simp only [Rows.uptoBulk]; omega⟩
    rw [← e]
    exact hz _ (by simp [DataW.weights])⟩
theorem list_of {α : Type} {p : Nat → α → Prop} : ∀ {n : Nat}, (∀ i, i < n → ∃ a, p i a) → ∃ l : List α, l.length = n ∧ ∀ i (h : i < l.length), p i l[i]
  | 0, _ => ⟨[], rfl, fun i h => absurd h (Nat.not_lt_zero _)⟩
  | n + 1, h => by
    obtain ⟨l, hl, hp⟩ := list_of (n := n) (fun i hi => h i (Nat.lt_succ_of_lt hi))
    obtain ⟨a, ha⟩ := h n (Nat.lt_succ_self n)
    refine ⟨l ++ [a], by simp [hl], fun i hi => ?_⟩
    by_cases hlt : i < l.length
    · rw [List.getElem_append_left hlt]
      exact hp i hlt
    · have e : i = n := by simp at hi; omega
      subst e
      rw [List.getElem_append_right (by omega)]
      simpa [hl] using ha
theorem bulk_all {α H : Type} {wt : α → Nat} : ∀ {l : List α} {ds : List (DataW H)}, l.length ≤ ds.length → (∀ i (h : i < l.length) d, ds[i]? = some d → wt l[i] ≤ Rows.uptoBulk d) → (l.map wt).sum ≤ Rows.uptoBulkAll ds
  | [], _, _, _ => by simp
  | a :: l, [], h, _ => by simp at h
  | a :: l, d :: ds, h, hw => by
    have h0 := hw 0 (by simp) d rfl
    have h1 := bulk_all (l := l) (ds := ds) (by simpa using h) (fun i hi d' hd' => hw (i + 1) (by simpa using hi) d' (by simpa using hd'))
    simp only [List.map_cons, List.sum_cons, Rows.uptoBulkAll]
    simp at h0
    omega
theorem weights_all {H : Type} {P : Program} {e : TypeId} : ∀ {ds : List (DataW H)} {d : DataW H}, d ∈ ds → ∀ n ∈ d.weights P e, n ∈ DataW.weightsAll P e ds
  | d0 :: ds, d, h, n, hn => by
    simp only [DataW.weightsAll, List.mem_append]
    cases List.mem_cons.1 h with
    | inl e => subst e; exact .inl hn
    | inr e => exact .inr (weights_all e n hn)
theorem opens_slice {α : Type} {P : Program} {t e : TypeId} {d : Kd α} {wf : α → Prop} {wt : α → Nat} {b : Nat} (ho : Opens P e d wf wt) (ht : P.underlying t = some (.slice e)) (hc : P.cellsOf t = 1) (hb : P.bytesOf e = b) :
    Opens P t (Kd.slice e d) (fun l => l.length * b ≤ 140737488351232 ∧ l.length ≤ 9223372036854775807 ∧ ∀ a ∈ l, wf a) (fun l => (l.map wt).sum + 1) :=
  ⟨hc, fun {H enc w base spare held fuel cs x} h hz => by
    subst hb
    rcases DataW.trod_slice ht h with ⟨rfl, rfl⟩ | ⟨a, len, cap, elems, rest, n, _, rfl, rfl, hb, hl, hm, hlen, hel, hsp, hns⟩
    · exact ⟨[], ⟨none, 0, rfl, Nat.le_refl _, Kd.C_nil d w⟩, ⟨by simp, by simp, by simp⟩, by simp [Rows.uptoBulk]⟩
    · have hm' : cap ≤ 9223372036854775807 := hm
      have hz1 : (elems.length + rest.length) * P.bytesOf e ≤ 140737488351232 := hz _ (by simp [DataW.weights, ht])
      have hz2 : ∀ y ∈ elems, ∀ n ∈ y.1.weights P e, n ≤ 140737488351232 := fun y hy n hn => hz _ (by
        simp only [DataW.weights, ht, List.mem_cons, List.mem_append]
        exact .inr (.inl (weights_all (List.mem_map.2 ⟨y, hy, rfl⟩) n hn)))
      have each : ∀ i, i < len → ∃ a' : α, (∃ cs' y, w.cells? base (a.add (i * P.cellsOf e)) (P.cellsOf e) = some cs' ∧ d.K w a' cs' ∧ elems[i]? = some y ∧ wt a' ≤ Rows.uptoBulk y.1) ∧ wf a' := fun i hi => by
        have h1 := hel i hi
        rw [List.getElem?_eq_getElem (by omega)] at h1
        obtain ⟨cs', h2, h3⟩ := Option.bind_eq_some_iff.1 h1
        obtain ⟨a', k1, k2, k3⟩ := ho.op h3 (hz2 _ (List.getElem_mem _))
        exact ⟨a', ⟨cs', _, h2, k1, List.getElem?_eq_getElem (by omega), k3⟩, k2⟩
      obtain ⟨l, hl1, hl2⟩ := list_of each
      subst hl1
      refine ⟨l, ⟨some a, cap, rfl, hl, rfl, by omega, fun _ => ⟨a, rfl, fun j p hp => ?_⟩⟩, ⟨?_, by omega, fun a' ha' => ?_⟩, ?_⟩
      · obtain ⟨hj, rfl⟩ := List.getElem?_eq_some_iff.1 hp
        obtain ⟨⟨cs', y, h2, k1, _, _⟩, _⟩ := hl2 j hj
        obtain ⟨_, hcl, hcell⟩ := World.cells?_some h2
        refine ⟨cs', by rw [hcl, ho.cells], k1, fun i u hu => ?_⟩
        have hi : i < P.cellsOf e := by rw [← hcl]; exact (List.getElem?_eq_some_iff.1 hu).1
        have := hcell i hi
        rw [hu, ho.cells] at this
        rw [← this]
        congr 1
        unfold Addr.add
        by_cases hi0 : i = 0 <;> by_cases hj0 : j * d.sz = 0 <;> simp [hi0, hj0, Nat.add_assoc]
      · refine Nat.le_trans (Nat.mul_le_mul_right _ ?_) hz1
        omega
      · obtain ⟨j, hj, rfl⟩ := List.getElem_of_mem ha'
        exact (hl2 j hj).2
      · have := bulk_all (l := l) (ds := elems.map (·.1)) (wt := wt) (by simp; omega) (fun i hi dd hd => by
          obtain ⟨⟨_, y, _, _, hy, hw⟩, _⟩ := hl2 i hi
          rw [List.getElem?_map, hy] at hd
          simp at hd
          subst hd
          exact hw)
        simp only [Rows.uptoBulk]
        omega⟩
/-- The fields from one on, whose cells begin at off. -/
def OpensF {α : Type} (P : Program) (fs : List Field) (off : Nat) (d : Kd α) (wf : α → Prop) (wt : α → Nat) : Prop :=
  (∃ f r, fs = f :: r ∧ f.offset = off) ∧
  ∀ {H : Type} {enc : TypeId × Value → H} {w : World} {base : Nat} {spare : Nat → Bool} {held : Bool} {fuel : Nat} {cs : List Value} {xs : List (DataW H × List MemPlace)},
    cs.length = d.sz → xs.length = fs.length → (∀ (i : Nat) (f : Field), fs[i]? = some f → DataW.trod enc P w base spare held fuel f.type ((cs.drop (f.offset - off)).take (P.cellsOf f.type)) = xs[i]? ∧ off ≤ f.offset) →
    (∀ n ∈ DataW.weightsEach P (fs.map (·.type)) (xs.map (·.1)), n ≤ 140737488351232) → ∃ a : α, d.K w a cs ∧ wf a ∧ wt a ≤ Rows.uptoBulkAll (xs.map (·.1))
theorem opensF_one {α : Type} {P : Program} {f : Field} {off : Nat} {d : Kd α} {wf : α → Prop} {wt : α → Nat} (ho : Opens P f.type d wf wt) (hf : f.offset = off) : OpensF P [f] off d wf wt :=
  ⟨⟨f, [], rfl, hf⟩, fun {H enc w base spare held fuel cs xs} hc hx h hz => by
    match xs, hx with
    | [x], _ =>
      have h1 := (h 0 f rfl).1
      rw [hf, Nat.sub_self, List.drop_zero, ho.cells, List.take_of_length_le (by omega)] at h1
      obtain ⟨a, k1, k2, k3⟩ := ho.op (x := x) (by simpa using h1) (fun n hn => hz n (by simp [DataW.weightsEach, hn]))
      exact ⟨a, k1, k2, by simpa [Rows.uptoBulkAll] using k3⟩⟩
theorem opensF_cons {α β : Type} {P : Program} {f : Field} {fs : List Field} {off : Nat} {a : Kd α} {b : Kd β} {wfa : α → Prop} {wta : α → Nat} {wfb : β → Prop} {wtb : β → Nat} (ho : Opens P f.type a wfa wta) (hf : f.offset = off)
    (hr : OpensF P fs (off + a.sz) b wfb wtb) (hge : ∀ g ∈ fs, off + a.sz ≤ g.offset) : OpensF P (f :: fs) off (Kd.pair a b) (fun x => wfa x.1 ∧ wfb x.2) (fun x => wta x.1 + wtb x.2) :=
  ⟨⟨f, fs, rfl, hf⟩, fun {H enc w base spare held fuel cs xs} hc hx h hz => by
    match xs, hx with
    | x :: xs, hx =>
      have hc' : cs.length = a.sz + b.sz := hc
      have h1 := (h 0 f rfl).1
      rw [hf, Nat.sub_self, List.drop_zero, ho.cells] at h1
      obtain ⟨u, k1, k2, k3⟩ := ho.op (x := x) (by simpa using h1) (fun n hn => hz n (by simp [DataW.weightsEach, hn]))
      obtain ⟨v, j1, j2, j3⟩ := hr.2 (cs := cs.drop a.sz) (xs := xs) (by simp; omega) (by simpa using hx) (fun i g hg => by
        obtain ⟨h2, h3⟩ := h (i + 1) g (by simpa using hg)
        have h4 := hge g (List.mem_of_getElem? hg)
        refine ⟨?_, h4⟩
        rw [List.drop_drop, show a.sz + (g.offset - (off + a.sz)) = g.offset - off from by omega]
        simpa using h2) (fun n hn => hz n (by simp [DataW.weightsEach, hn]))
      refine ⟨(u, v), ⟨cs.take a.sz, cs.drop a.sz, (List.take_append_drop _ _).symm, k1, j1⟩, ⟨k2, j2⟩, ?_⟩
      simp only [List.map_cons, Rows.uptoBulkAll]
      omega⟩
theorem opens_struct {α β : Type} {P : Program} {t : TypeId} {fs : Array Field} {d : Kd α} {wf : α → Prop} {wt : α → Nat} (f : β → α) (g : α → β) (hfg : ∀ a, f (g a) = a) (ht : P.underlying t = some (.struct fs)) (hc : P.cellsOf t = d.sz)
    (ho : OpensF P fs.toList 0 d wf wt) : Opens P t (Kd.iso d f) (fun x => wf (f x)) (fun x => wt (f x) + 1) :=
  ⟨hc, fun {H enc w base spare held fuel cs x} h hz => by
    obtain ⟨xs, n, _, rfl, hl, hxl, hx⟩ := DataW.trod_struct ht h
    obtain ⟨a, k1, k2, k3⟩ := ho.2 (cs := cs) (xs := xs) (by rw [hl, hc]) (by simpa using hxl) (fun i fd hfd => ⟨by
      have := hx i fd (by simpa using hfd)
      simpa using this, Nat.zero_le _⟩) (fun m hm => hz m (by simpa [DataW.weights, ht] using hm))
    refine ⟨g a, ?_, ?_, ?_⟩
    · show d.K w (f (g a)) cs
      rw [hfg]
      exact k1
    · rw [hfg]
      exact k2
    · rw [hfg]
      simp only [Rows.uptoBulk]
      omega⟩
/-- The size of each part, out of the row's own reach. -/
theorem weights_of {H : Type} {P : Program} {ts : List TypeId} {ds : List (DataW H)} (h : (DataW.weightsEach P ts ds).all (· ≤ reachBytes) = true) {j : Nat} {t : TypeId} {d : DataW H} (ht : ts[j]? = some t) (hd : ds[j]? = some d) : ∀ n ∈ d.weights P t, n ≤ 140737488351232 := fun n hn => by
  have := List.all_eq_true.1 h _ (DataW.weights_mem_each ht hd n hn)
  exact of_decide_eq_true this
end Go.Proofs.Ytibkcnlcmempgaa.Opening
end
