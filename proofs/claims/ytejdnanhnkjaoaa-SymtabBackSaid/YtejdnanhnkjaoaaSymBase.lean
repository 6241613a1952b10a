/- Plain facts on symbols and their names. -/
import Derived.Test.YtejdnanhnkjaoaaSymNamesS
import Derived.Test.YtejdnanhnkjaoaaSymWrite
namespace Go.Proofs.Ytejdnanhnkjaoaa.Sym
set_option linter.unusedVariables false
set_option linter.unusedSimpArgs false
open Go.RowKit Go.Proofs.Ytejdnanhnkjaoaa.G Go.Proofs.YtejdnanhnkjaoaaW.PrintWords Go.Proofs.YtejdnanhnkjaoaaW.PrintLast Go.Proofs.YtejdnanhnkjaoaaW.PrintMore Go.Proofs.Ytejdnanhnkjaoaa.Bit
theorem rdOf_get (l : List ByteArray) (i : Nat) (h : i < l.length) : rdOf ByteArray.empty l (i : Int) = l[i] := by simp [rdOf, List.getD, h]
theorem rd_get (l : List Int) (i : Nat) (h : i < l.length) : rd l (i : Int) = l[i] := by simp [rd, List.getD, h]
/-- the place of a name among names -/
def pos (names : List ByteArray) (s : List UInt8) : Nat := names.findIdx fun x => x.data.toList == s
theorem among_pos (l : List ByteArray) (s : ByteArray) : among l s = decide (pos l s.data.toList < l.length) := by
  unfold among pos
  induction l with
  | nil => simp
  | cons x l ih =>
    rw [List.any_cons, ih, List.findIdx_cons]
    cases h : (x.data.toList == s.data.toList)
    · simp
    · simp
theorem pos_le (l : List ByteArray) (s : List UInt8) : pos l s ≤ l.length := List.findIdx_le_length
/-! the symbols -/
theorem rd_sym (l : List S58) (i : Nat) (h : i < l.length) : rd_T58 l (i : Int) = l[i] := by simp [rd_T58, List.getD, h]
end Go.Proofs.Ytejdnanhnkjaoaa.Sym
namespace Go.Proofs.Ytejdnanhnkjaoaa.SymW
set_option linter.unusedVariables false
set_option linter.unusedSimpArgs false
open Go.RowKit Go.Proofs.Ytejdnanhnkjaoaa.G Go.Proofs.YtejdnanhnkjaoaaW.PrintWords Go.Proofs.YtejdnanhnkjaoaaW.PrintLast Go.Proofs.YtejdnanhnkjaoaaW.PrintMore Go.Proofs.Ytejdnanhnkjaoaa.Bit Go.Proofs.Ytejdnanhnkjaoaa.Sym
theorem idxL_pos (l : List ByteArray) (s : ByteArray) : ∀ i : Int, idxL l s i = if pos l s.data.toList < l.length then i + pos l s.data.toList else -1 := by
  induction l with
  | nil => intro i; simp [idxL, pos]
  | cons x l ih =>
    intro i
    simp only [idxL]
    unfold pos at *
    rw [List.findIdx_cons]
    by_cases h : s.toList = x.toList
    · have h2 : (x.data.toList == s.data.toList) = true := beq_iff_eq.2 ((same_iff _ _).1 h).symm
      rw [if_pos h, h2]
      simp
    · have h2 : (x.data.toList == s.data.toList) = false := beq_eq_false_iff_ne.2 (fun e => h ((same_iff _ _).2 e.symm))
      rw [if_neg h, h2, ih]
      simp only [cond_false, List.length_cons]
      by_cases c : l.findIdx (fun x => x.data.toList == s.data.toList) < l.length
      · rw [if_pos c, if_pos (by omega)]; omega
      · rw [if_neg c, if_neg (by omega)]
theorem locals_le (l : List S58) : (locals l).length ≤ l.length := List.length_filter_le _ _
theorem ordered_mem {l : List S58} {x : S58} (h : x ∈ ordered l) : x ∈ l := by
  unfold ordered locals globals at h
  rcases List.mem_append.1 h with h | h <;> exact (List.mem_filter.1 h).1
/-- What a list that may be is. -/
theorem check_ok {l : List S58} {secs : List ByteArray} (h : symCheck l secs = 0) : l.length ≤ 2000 ∧ secs.length ≤ 64 ∧ (∀ x ∈ l, x.f0.size ≤ 255) ∧ (∀ x ∈ l, rightOf x secs = true) := by
  unfold symCheck at h
  split at h
  · cases h
  rename_i h1
  split at h
  · cases h
  rename_i h2
  split at h
  · cases h
  split at h
  · cases h
  rename_i h4
  rw [Bool.or_eq_true, not_or] at h2
  refine ⟨by omega, by omega, fun x hx => ?_, fun x hx => ?_⟩
  · obtain ⟨i, hi, rfl⟩ := List.mem_iff_getElem.1 hx
    have := List.any_eq_false.1 (Bool.eq_false_iff.2 h2.1) i (List.mem_range.2 hi)
    unfold longName at this
    rw [rd_sym l i hi] at this
    simp at this
    exact this
  · obtain ⟨i, hi, rfl⟩ := List.mem_iff_getElem.1 hx
    have := List.any_eq_false.1 (Bool.eq_false_iff.2 h4) i (List.mem_range.2 hi)
    unfold symBad at this
    rw [rd_sym l i hi] at this
    simp only [Bool.or_eq_true, not_or, Bool.not_eq_true', Bool.not_eq_false] at this
    exact this.1
theorem sum_le (l : List ByteArray) (h : ∀ s ∈ l, s.size ≤ 255) : (l.map ByteArray.size).sum ≤ 255 * l.length := by
  induction l with
  | nil => simp
  | cons x l ih =>
    have h1 := h x (by simp)
    have h2 := ih (fun s hs => h s (by simp [hs]))
    simp only [List.map_cons, List.sum_cons, List.length_cons]
    omega
/-- What Write answers, it answers always. -/
theorem write_some (l : List S58) (secs : List ByteArray) : ∃ r, writeF l secs = some r := by
  by_cases hc : symCheck l secs = 0
  · obtain ⟨h1, h2, h3, h4⟩ := check_ok hc
    have hol := ordered_length l
    have hnl : (namesOf (ordered l)).length = l.length := by unfold namesOf; rw [List.length_map, hol]
    have hsz : ∀ s ∈ namesOf (ordered l), s.size ≤ 255 := by
      intro s hs
      obtain ⟨x, hx, rfl⟩ := List.mem_map.1 hs
      exact h3 x (ordered_mem hx)
    have hsum := sum_le _ hsz
    rw [hnl] at hsum
    unfold writeF
    rw [if_neg (fun h => h hc), if_pos ⟨h1, h2⟩]
    rcases strings_table (namesOf (ordered l)) (by omega) (by omega) with h | h | ⟨b, a, h, ht⟩
    · rw [h]; exact ⟨_, if_pos (by decide)⟩
    · rw [h]; exact ⟨_, if_pos (by decide)⟩
    · have hal : a.length = l.length := by rw [ht.len, hnl]
      rw [h]
      refine ⟨(List.replicate 24 0 ++ symsOf secs (ordered l) a, b, 1 + ((locals l).length : Int), 0), ?_⟩
      show (if (0 : Int) ≠ 0 then _ else _) = _
      rw [if_neg (by decide), if_pos hal]
  · exact ⟨_, by unfold writeF; rw [if_pos hc]⟩
end Go.Proofs.Ytejdnanhnkjaoaa.SymW
