/- A table of frame rules, as plain lists of numbers: what each op makes of it; and how it lies in memory. -/
import Derived.Test.YtngddlihppomhaaGfM
import Derived.Deep.MidRow
namespace Go.Proofs.Ytngddlihppomhaa.Cfa
set_option linter.unusedVariables false
set_option linter.unusedSimpArgs false
open Go.RowKit Go.Proofs.Ytngddlihppomhaa.G Go.Proofs.YtngddlihppomhaaW.PrintWords Go.Proofs.YtngddlihppomhaaW.PrintLast Go.Proofs.YtngddlihppomhaaW.PrintMore

/-- A row: 37 numbers: its place, its register, its offset, then 17 rules of two numbers each. -/
abbrev Row := List Int
structure T where
  rows : List Row
  now : Row
  first : Row
  kept : List Row
  size : Int
  begun : Bool
def row0 : Row := 0 :: -1 :: 0 :: List.replicate 34 0
def fresh (size : Int) : T := ⟨[], row0, List.replicate 37 0, [], size, false⟩
def ru (r : Int) : Nat := 3 + r.toNat * 2
/-- what an op makes of a table; none: it may not be there -/
def act (t : T) (k r n : Int) : Option T :=
  if k = 0 then some t
  else if k = 1 then if n = 0 then some t else if t.now.getD 0 0 + n ≤ t.size then some { t with rows := t.rows ++ [t.now], now := t.now.set 0 (t.now.getD 0 0 + n) } else none
  else if k = 2 then some { t with now := (t.now.set 1 r).set 2 n }
  else if k = 3 then if 0 ≤ t.now.getD 1 0 then some { t with now := t.now.set 2 n } else none
  else if k = 4 then if 0 ≤ t.now.getD 1 0 then some { t with now := t.now.set 1 r } else none
  else if k = 5 then some { t with now := (t.now.set (ru r) 2).set (ru r + 1) n }
  else if k = 6 then some { t with now := (t.now.set (ru r) (t.first.getD (ru r) 0)).set (ru r + 1) (t.first.getD (ru r + 1) 0) }
  else if k = 7 then some { t with now := (t.now.set (ru r) 1).set (ru r + 1) 0 }
  else if k = 8 then some { t with now := (t.now.set (ru r) 0).set (ru r + 1) 0 }
  else if k = 9 then if t.kept.length + 1 ≤ 64 then some { t with kept := t.kept ++ [t.now] } else none
  else if t.kept = [] then none else some { t with now := (t.kept.getLastD []).set 0 (t.now.getD 0 0), kept := t.kept.dropLast }
def does (t : T) (k r n : Int) : Option T :=
  if mayF k r n = false then none
  else if t.begun = false ∧ (k = 1 ∨ k = 9 ∨ k = 10 ∨ k = 6) then none
  else act t k r n
def doAll (t : T) : List (Int × Int × Int) → Option T
  | [] => some t
  | o :: l => (does t o.1 o.2.1 o.2.2).bind fun t' => doAll t' l
def begin_ (t : T) (l : List (Int × Int × Int)) : Option T :=
  (doAll t l).bind fun t' => if 0 ≤ t'.now.getD 1 0 then some { t' with first := t'.now, begun := true } else none
def run (initial ops : List (Int × Int × Int)) (size : Int) : Option T := (begin_ (fresh size) initial).bind fun t => doAll t ops
def rowsOf (initial ops : List (Int × Int × Int)) (size : Int) : List Row × Int :=
  if size < 0 ∨ 1048576 < size then ([], 11)
  else if 4000 < initial.length ∨ 4000 < ops.length then ([], 6)
  else match run initial ops size with
    | none => ([], 130)
    | some t => (t.rows ++ [t.now], 0)
/-- the row of a place -/
def findIn (at_ : Int) : List Row → Option Row → Option Row
  | [], out => out
  | r :: l, out => if at_ < 0 ∨ at_ < r.getD 0 0 then out else findIn at_ l (some r)

theorem ite_cases {α : Type} {p : Prop} [Decidable p] {a b c : α} (e : (if p then a else b) = c) : (p ∧ a = c) ∨ (¬ p ∧ b = c) := by
  by_cases h : p
  · rw [if_pos h] at e; exact .inl ⟨h, e⟩
  · rw [if_neg h] at e; exact .inr ⟨h, e⟩
/-! What is true of every table. -/
structure Good (t : T) : Prop where
  now : t.now.length = 37
  first : t.first.length = 37
  rows : ∀ r ∈ t.rows, r.length = 37
  kept : ∀ r ∈ t.kept, r.length = 37
  at0 : 0 ≤ t.now.getD 0 0
  size : t.size ≤ 1048576
  atS : 0 ≤ t.size → t.now.getD 0 0 ≤ t.size
theorem good_fresh (size : Int) (h : size ≤ 1048576) : Good (fresh size) := ⟨rfl, rfl, by simp [fresh], by simp [fresh], by simp [fresh, row0], h, fun h => h⟩
theorem getD_set_ne {l : Row} {i j : Nat} (h : i ≠ j) (x : Int) : (l.set i x).getD j 0 = l.getD j 0 := by
  simp [List.getD_eq_getElem?_getD, List.getElem?_set_ne h]
theorem getD_set_eq {l : Row} {i : Nat} (h : i < l.length) (x : Int) : (l.set i x).getD i 0 = x := by
  simp [List.getD_eq_getElem?_getD, h]
theorem ru_ne (r : Int) : ru r ≠ 0 ∧ ru r + 1 ≠ 0 := by unfold ru; omega
theorem getLastD_mem {l : List Row} (h : l ≠ []) : l.getLastD [] ∈ l := by
  rw [List.getLastD_eq_getLast?, List.getLast?_eq_some_getLast h]
  exact List.getLast_mem h
theorem may_n {k r n : Int} (h : mayF k r n = true) (hk : k = 1) : 0 ≤ n ∧ n ≤ 2147483647 := by
  subst hk
  simp [mayF] at h
  omega
theorem may_r {k r n : Int} (h : mayF k r n = true) : 0 ≤ r ∧ r ≤ 16 := by
  unfold mayF at h
  split at h
  · simp only [Bool.and_eq_true, decide_eq_true_eq] at h; omega
  split at h
  · simp only [Bool.and_eq_true, decide_eq_true_eq] at h; omega
  split at h
  · simp only [Bool.and_eq_true, decide_eq_true_eq] at h; omega
  split at h
  · simp only [Bool.and_eq_true, decide_eq_true_eq] at h; omega
  split at h
  · simp only [Bool.and_eq_true, decide_eq_true_eq] at h; omega
  · cases h
theorem may_k {k r n : Int} (h : mayF k r n = true) : 0 ≤ k ∧ k ≤ 10 := by
  unfold mayF at h
  split at h
  · omega
  split at h
  · omega
  split at h
  · omega
  split at h
  · omega
  split at h
  · omega
  · cases h
theorem good_act {t t' : T} {k r n : Int} (h : Good t) (hm : mayF k r n = true) (e : act t k r n = some t') : Good t' := by
  obtain ⟨h1, h2, h3, h4, h5, h6, h7⟩ := h
  have hr := ru_ne r
  unfold act at e
  rcases ite_cases e with ⟨cc, e⟩ | ⟨cc, e⟩
  · cases e; exact ⟨h1, h2, h3, h4, h5, h6, h7⟩
  rcases ite_cases e with ⟨cc, e⟩ | ⟨cc, e⟩
  · have hn := may_n hm cc
    rcases ite_cases e with ⟨cc, e⟩ | ⟨cc, e⟩
    · cases e; exact ⟨h1, h2, h3, h4, h5, h6, h7⟩
    rcases ite_cases e with ⟨cc, e⟩ | ⟨cc, e⟩
    · cases e
      have hs := cc
      refine ⟨by simpa using h1, h2, fun q hq => ?_, h4, ?_, h6, fun _ => ?_⟩
      · rcases List.mem_append.1 hq with hq | hq
        · exact h3 q hq
        · rw [List.mem_singleton.1 hq]; exact h1
      · show 0 ≤ (t.now.set 0 _).getD 0 0
        rw [getD_set_eq (by omega)]; omega
      · show (t.now.set 0 _).getD 0 0 ≤ t.size
        rw [getD_set_eq (by omega)]; exact hs
    · cases e
  rcases ite_cases e with ⟨cc, e⟩ | ⟨cc, e⟩
  · cases e
    refine ⟨by simpa using h1, h2, h3, h4, ?_, h6, fun hz => ?_⟩
    · show 0 ≤ ((t.now.set 1 r).set 2 n).getD 0 0
      rw [getD_set_ne (by decide), getD_set_ne (by decide)]; exact h5
    · show ((t.now.set 1 r).set 2 n).getD 0 0 ≤ t.size
      rw [getD_set_ne (by decide), getD_set_ne (by decide)]; exact h7 hz
  rcases ite_cases e with ⟨cc, e⟩ | ⟨cc, e⟩
  · rcases ite_cases e with ⟨cc, e⟩ | ⟨cc, e⟩
    · cases e
      refine ⟨by simpa using h1, h2, h3, h4, ?_, h6, fun hz => ?_⟩
      · show 0 ≤ (t.now.set 2 n).getD 0 0
        rw [getD_set_ne (by decide)]; exact h5
      · show (t.now.set 2 n).getD 0 0 ≤ t.size
        rw [getD_set_ne (by decide)]; exact h7 hz
    · cases e
  rcases ite_cases e with ⟨cc, e⟩ | ⟨cc, e⟩
  · rcases ite_cases e with ⟨cc, e⟩ | ⟨cc, e⟩
    · cases e
      refine ⟨by simpa using h1, h2, h3, h4, ?_, h6, fun hz => ?_⟩
      · show 0 ≤ (t.now.set 1 r).getD 0 0
        rw [getD_set_ne (by decide)]; exact h5
      · show (t.now.set 1 r).getD 0 0 ≤ t.size
        rw [getD_set_ne (by decide)]; exact h7 hz
    · cases e
  have two : ∀ x y : Int, Good { t with now := (t.now.set (ru r) x).set (ru r + 1) y } := fun x y => by
    refine ⟨by simpa using h1, h2, h3, h4, ?_, h6, fun hz => ?_⟩
    · show 0 ≤ ((t.now.set (ru r) x).set (ru r + 1) y).getD 0 0
      rw [getD_set_ne hr.2, getD_set_ne hr.1]; exact h5
    · show ((t.now.set (ru r) x).set (ru r + 1) y).getD 0 0 ≤ t.size
      rw [getD_set_ne hr.2, getD_set_ne hr.1]; exact h7 hz
  rcases ite_cases e with ⟨cc, e⟩ | ⟨cc, e⟩
  · cases e; exact two _ _
  rcases ite_cases e with ⟨cc, e⟩ | ⟨cc, e⟩
  · cases e; exact two _ _
  rcases ite_cases e with ⟨cc, e⟩ | ⟨cc, e⟩
  · cases e; exact two _ _
  rcases ite_cases e with ⟨cc, e⟩ | ⟨cc, e⟩
  · cases e; exact two _ _
  rcases ite_cases e with ⟨cc, e⟩ | ⟨cc, e⟩
  · rcases ite_cases e with ⟨cc, e⟩ | ⟨cc, e⟩
    · cases e
      refine ⟨h1, h2, h3, fun q hq => ?_, h5, h6, h7⟩
      rcases List.mem_append.1 hq with hq | hq
      · exact h4 q hq
      · rw [List.mem_singleton.1 hq]; exact h1
    · cases e
  rcases ite_cases e with ⟨cc, e⟩ | ⟨cc, e⟩
  · cases e
  · have hne := cc
    cases e
    have hl := h4 _ (getLastD_mem hne)
    refine ⟨by simpa using hl, h2, h3, fun q hq => h4 q (List.dropLast_subset _ hq), ?_, h6, fun hz => ?_⟩
    · show 0 ≤ ((t.kept.getLastD []).set 0 (t.now.getD 0 0)).getD 0 0
      rw [getD_set_eq (by omega)]; exact h5
    · show ((t.kept.getLastD []).set 0 (t.now.getD 0 0)).getD 0 0 ≤ t.size
      rw [getD_set_eq (by omega)]; exact h7 hz
theorem good_does {t t' : T} {k r n : Int} (h : Good t) (e : does t k r n = some t') : Good t' := by
  unfold does at e
  rcases ite_cases e with ⟨ca, e⟩ | ⟨ca, e⟩
  · cases e
  rcases ite_cases e with ⟨cc, e⟩ | ⟨cc, e⟩
  · cases e
  exact good_act h (by simpa using ca) e
theorem act_size {t t' : T} {k r n : Int} (e : act t k r n = some t') : t'.size = t.size ∧ t'.begun = t.begun ∧ t'.first = t.first ∧ t'.rows.length ≤ t.rows.length + 1 ∧ t'.kept.length ≤ t.kept.length + 1 := by
  have hc : ∀ {x : T}, some x = some t' → x.size = t.size → x.begun = t.begun → x.first = t.first → x.rows.length ≤ t.rows.length + 1 → x.kept.length ≤ t.kept.length + 1 → t'.size = t.size ∧ t'.begun = t.begun ∧ t'.first = t.first ∧ t'.rows.length ≤ t.rows.length + 1 ∧ t'.kept.length ≤ t.kept.length + 1 := by
    intro x hx a b c d e
    cases hx
    exact ⟨a, b, c, d, e⟩
  have hn : ∀ {p : Prop} [Decidable p] {x : T}, (if p then some x else none) = some t' → some x = some t' := by
    intro p _ x h
    split at h
    · exact h
    · cases h
  unfold act at e
  rcases ite_cases e with ⟨cc, e⟩ | ⟨cc, e⟩
  · exact hc e rfl rfl rfl (Nat.le_succ _) (Nat.le_succ _)
  rcases ite_cases e with ⟨cc, e⟩ | ⟨cc, e⟩
  · rcases ite_cases e with ⟨cc, e⟩ | ⟨cc, e⟩
    · exact hc e rfl rfl rfl (Nat.le_succ _) (Nat.le_succ _)
    · exact hc (hn e) rfl rfl rfl (by simp) (Nat.le_succ _)
  rcases ite_cases e with ⟨cc, e⟩ | ⟨cc, e⟩
  · exact hc e rfl rfl rfl (Nat.le_succ _) (Nat.le_succ _)
  rcases ite_cases e with ⟨cc, e⟩ | ⟨cc, e⟩
  · exact hc (hn e) rfl rfl rfl (Nat.le_succ _) (Nat.le_succ _)
  rcases ite_cases e with ⟨cc, e⟩ | ⟨cc, e⟩
  · exact hc (hn e) rfl rfl rfl (Nat.le_succ _) (Nat.le_succ _)
  rcases ite_cases e with ⟨cc, e⟩ | ⟨cc, e⟩
  · exact hc e rfl rfl rfl (Nat.le_succ _) (Nat.le_succ _)
  rcases ite_cases e with ⟨cc, e⟩ | ⟨cc, e⟩
  · exact hc e rfl rfl rfl (Nat.le_succ _) (Nat.le_succ _)
  rcases ite_cases e with ⟨cc, e⟩ | ⟨cc, e⟩
  · exact hc e rfl rfl rfl (Nat.le_succ _) (Nat.le_succ _)
  rcases ite_cases e with ⟨cc, e⟩ | ⟨cc, e⟩
  · exact hc e rfl rfl rfl (Nat.le_succ _) (Nat.le_succ _)
  rcases ite_cases e with ⟨cc, e⟩ | ⟨cc, e⟩
  · exact hc (hn e) rfl rfl rfl (Nat.le_succ _) (by simp)
  rcases ite_cases e with ⟨cc, e⟩ | ⟨cc, e⟩
  · cases e
  · exact hc e rfl rfl rfl (Nat.le_succ _) (by simp; omega)
theorem does_size {t t' : T} {k r n : Int} (e : does t k r n = some t') : t'.size = t.size ∧ t'.begun = t.begun ∧ t'.first = t.first ∧ t'.rows.length ≤ t.rows.length + 1 ∧ t'.kept.length ≤ t.kept.length + 1 := by
  unfold does at e
  rcases ite_cases e with ⟨cc, e⟩ | ⟨cc, e⟩
  · cases e
  rcases ite_cases e with ⟨cc, e⟩ | ⟨cc, e⟩
  · cases e
  exact act_size e
end Go.Proofs.Ytngddlihppomhaa.Cfa
