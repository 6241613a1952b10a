/- What symtab's small helpers answer, in plain words: plain, slices.Contains, right. -/
import Derived.Test.YtejdnanhnkjaoaaGf39
import Derived.Test.YtejdnanhnkjaoaaGfM
namespace Go.Proofs.Ytejdnanhnkjaoaa.Sym
set_option linter.unusedVariables false
set_option linter.unusedSimpArgs false
open Go.RowKit Go.Proofs.Ytejdnanhnkjaoaa.G Go.Proofs.YtejdnanhnkjaoaaW.PrintWords Go.Proofs.YtejdnanhnkjaoaaW.PrintLast Go.Proofs.YtejdnanhnkjaoaaW.PrintMore

/-- is the name among these? -/
def among (l : List ByteArray) (s : ByteArray) : Bool := l.any fun x => x.data.toList == s.data.toList
/-- the place of a name, -1 for none -/
def placeOf (l : List ByteArray) (s : ByteArray) : Int := if among l s then (l.findIdx fun x => x.data.toList == s.data.toList : Nat) else -1
theorem index_l0 (l : List ByteArray) (s : ByteArray) (hm : l.length ≤ 140737488355328) (d : Nat) : ∀ (k i : Nat), i + d = l.length → d < k →
    slices_Index_string_string.l0 k l s (l.length : Int) (i : Int) = some (if among (l.drop i) s then ((i + (l.drop i).findIdx (fun x => x.data.toList == s.data.toList) : Nat) : Int) else -1) := by
  induction d with
  | zero =>
    intro k i h1 h2
    obtain ⟨k, rfl⟩ : ∃ m, k = m + 1 := ⟨k - 1, by omega⟩
    simp only [slices_Index_string_string.l0]
    rw [if_neg (by omega), List.drop_of_length_le (by omega)]
    rfl
  | succ d ih =>
    intro k i h1 h2
    obtain ⟨k, rfl⟩ : ∃ m, k = m + 1 := ⟨k - 1, by omega⟩
    have hlt : i < l.length := by omega
    have hrd : rdOf ByteArray.empty l (i : Int) = l[i] := by simp [rdOf, List.getD, hlt]
    have h64 : wrap64 ((i : Int) + 1) = ((i + 1 : Nat) : Int) := by unfold wrap64; omega
    simp only [slices_Index_string_string.l0]
    rw [if_pos (by omega), if_pos (by omega), if_pos (by omega), hrd, h64, ih k (i + 1) (by omega) (by omega), List.drop_eq_getElem_cons hlt]
    rw [show among (l[i] :: l.drop (i + 1)) s = (l[i].data.toList == s.data.toList || among (l.drop (i + 1)) s) from rfl]
    simp only [List.findIdx_cons, ByteArray.toList_eq]
    by_cases c : l[i].data.toList = s.data.toList
    · rw [if_pos c.symm, show (l[i].data.toList == s.data.toList) = true from by simpa using c]
      simp
    · rw [if_neg (fun e => c e.symm), show (l[i].data.toList == s.data.toList) = false from by simpa using c]
      simp only [Bool.false_or, cond_false]
      by_cases c2 : among (l.drop (i + 1)) s = true
      · rw [if_pos c2, if_pos c2]
        congr 2
        omega
      · rw [if_neg c2, if_neg c2]
theorem sindex_f (l : List ByteArray) (s : ByteArray) (hm : l.length ≤ 140737488355328) (k : Nat) (hk : l.length < k) : slices_Index_string_string.f k l s = some (placeOf l s) := by
  have := index_l0 l s hm l.length k 0 (by omega) hk
  unfold slices_Index_string_string.f placeOf
  simpa using this
theorem contains_f (l : List ByteArray) (s : ByteArray) (hm : l.length ≤ 140737488355328) (k : Nat) (hk : l.length < k) : slices_Contains_string_string.f k l s = some (among l s) := by
  unfold slices_Contains_string_string.f
  rw [sindex_f l s hm k hk, Option.bind_some]
  unfold placeOf
  split
  · rename_i h
    rw [h, decide_eq_true (by omega)]
  · rename_i h
    rw [Bool.eq_false_iff.2 h, decide_eq_false (by omega)]
/-- has the name no byte 0? -/
def plainOf (s : ByteArray) : Bool := decide (Lib.indexByte s.data.toList 0 < 0)
theorem plain_f (s : ByteArray) : symtab_plain.f s = some (plainOf s) := rfl
/-- may a symbol be? -/
def rightOf (x : S58) (secs : List ByteArray) : Bool :=
  plainOf x.f0 && (x.f1.toList == [] || x.f1.toList == [42] || among secs x.f1) && decide (0 ≤ x.f2 ∧ x.f2 ≤ 4611686018427387904 ∧ 0 ≤ x.f3 ∧ x.f3 ≤ 4611686018427387904 ∧ 0 ≤ x.f4 ∧ x.f4 ≤ 2) &&
    decide (x.f5 = 0 ∨ x.f5 = 1 ∨ x.f5 = 2 ∨ x.f5 = 6 ∨ x.f5 = 10) && (x.f1.toList != [] || decide (x.f4 ≠ 0 ∧ x.f2 = 0 ∧ x.f3 = 0)) && (x.f0.toList != [] || decide (x.f4 = 0))
theorem right_j2 (k : Nat) (c : Bool) (x : S58) : symtab_right.j2 (k + 1) c x.f0 x.f1 x.f2 x.f3 x.f4 x.f5 = some (c && (x.f1.toList != [] || decide (x.f4 ≠ 0 ∧ x.f2 = 0 ∧ x.f3 = 0)) && (x.f0.toList != [] || decide (x.f4 = 0))) := by
  simp only [symtab_right.j2]
  cases c
  · simp
  · by_cases h1 : x.f1.toList = [] <;> by_cases h0 : x.f0.toList = [] <;> by_cases h4 : x.f4 = 0 <;> by_cases h2 : x.f2 = 0 <;> by_cases h3 : x.f3 = 0 <;> simp [h1, h0, h4, h2, h3]
theorem right_j1 (k : Nat) (c : Bool) (x : S58) : symtab_right.j1 (k + 2) c x.f0 x.f1 x.f2 x.f3 x.f4 x.f5 = some (!c && decide (x.f5 = 0 ∨ x.f5 = 1 ∨ x.f5 = 2 ∨ x.f5 = 6 ∨ x.f5 = 10) && (x.f1.toList != [] || decide (x.f4 ≠ 0 ∧ x.f2 = 0 ∧ x.f3 = 0)) && (x.f0.toList != [] || decide (x.f4 = 0))) := by
  simp only [symtab_right.j1]
  simp only [right_j2]
  generalize (x.f1.toList != [] || decide (x.f4 ≠ 0 ∧ x.f2 = 0 ∧ x.f3 = 0)) = p
  generalize (x.f0.toList != [] || decide (x.f4 = 0)) = q
  cases c
  · by_cases h0 : x.f5 = 0
    · simp [h0]
    · by_cases h1 : x.f5 = 1
      · simp [h1]
      · by_cases h2 : x.f5 = 2
        · simp [h2]
        · by_cases h6 : x.f5 = 6
          · simp [h6]
          · by_cases h10 : x.f5 = 10
            · simp [h10]
            · simp [h0, h1, h2, h6, h10]
  · simp
theorem right_j0 (k : Nat) (c : Bool) (x : S58) : symtab_right.j0 (k + 3) c x.f0 x.f1 x.f2 x.f3 x.f4 x.f5 = some (!c && decide (0 ≤ x.f2 ∧ x.f2 ≤ 4611686018427387904 ∧ 0 ≤ x.f3 ∧ x.f3 ≤ 4611686018427387904 ∧ 0 ≤ x.f4 ∧ x.f4 ≤ 2) && decide (x.f5 = 0 ∨ x.f5 = 1 ∨ x.f5 = 2 ∨ x.f5 = 6 ∨ x.f5 = 10) && (x.f1.toList != [] || decide (x.f4 ≠ 0 ∧ x.f2 = 0 ∧ x.f3 = 0)) && (x.f0.toList != [] || decide (x.f4 = 0))) := by
  simp only [symtab_right.j0]
  simp only [right_j1]
  generalize (x.f1.toList != [] || decide (x.f4 ≠ 0 ∧ x.f2 = 0 ∧ x.f3 = 0)) = p
  generalize (x.f0.toList != [] || decide (x.f4 = 0)) = q
  generalize (decide (x.f5 = 0 ∨ x.f5 = 1 ∨ x.f5 = 2 ∨ x.f5 = 6 ∨ x.f5 = 10)) = r
  cases c
  · have key : ∀ b : Bool, b = decide (0 ≤ x.f2 ∧ x.f2 ≤ 4611686018427387904 ∧ 0 ≤ x.f3 ∧ x.f3 ≤ 4611686018427387904 ∧ 0 ≤ x.f4 ∧ x.f4 ≤ 2) → True := fun _ _ => trivial
    rw [if_neg (by decide)]
    by_cases a1 : x.f2 < 0
    · rw [if_pos a1, decide_eq_false (by omega)]; simp
    · rw [if_neg a1]
      by_cases a2 : x.f2 > 4611686018427387904
      · rw [if_pos a2, decide_eq_false (by omega)]; simp
      · rw [if_neg a2]
        by_cases a3 : x.f3 < 0
        · rw [if_pos a3, decide_eq_false (by omega)]; simp
        · rw [if_neg a3]
          by_cases a4 : x.f3 > 4611686018427387904
          · rw [if_pos a4, decide_eq_false (by omega)]; simp
          · rw [if_neg a4]
            by_cases a5 : x.f4 < 0
            · rw [if_pos a5, decide_eq_false (by omega)]; simp
            · rw [if_neg a5]
              by_cases a6 : x.f4 > 2
              · rw [decide_eq_true a6, decide_eq_false (by omega)]; simp
              · rw [decide_eq_false a6, decide_eq_true (by omega)]; simp
  · simp
theorem right_f (x : S58) (secs : List ByteArray) (hm : secs.length ≤ 140737488355328) (k : Nat) (hk : secs.length + 3 ≤ k) : symtab_right.f k x.f0 x.f1 x.f2 x.f3 x.f4 x.f5 secs = some (rightOf x secs) := by
  unfold symtab_right.f rightOf
  rw [plain_f, Option.bind_some]
  obtain ⟨m, rfl⟩ : ∃ m, k = m + 3 := ⟨k - 3, by omega⟩
  simp only [right_j0]
  cases plainOf x.f0
  · simp
  · by_cases h1 : x.f1.toList = []
    · simp [h1]
    · by_cases h2 : x.f1.toList = [42]
      · simp [h1, h2]
      · rw [if_pos rfl, if_neg h1, if_neg h2]
        rw [contains_f secs x.f1 hm _ (by omega), Option.bind_some]
        have e1 : (x.f1.toList == []) = false := by simpa using h1
        have e2 : (x.f1.toList == [42]) = false := by simpa using h2
        rw [e1, e2]
        cases among secs x.f1 <;> simp
end Go.Proofs.Ytejdnanhnkjaoaa.Sym
