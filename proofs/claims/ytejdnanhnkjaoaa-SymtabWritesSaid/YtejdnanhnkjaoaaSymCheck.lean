/- The reference's answer to 'may they be?' is the program's. -/
import Derived.Test.YtejdnanhnkjaoaaSymRefS
import Derived.Test.YtejdnanhnkjaoaaGf23
import Derived.Test.YtejdnanhnkjaoaaGf24
namespace Go.Proofs.Ytejdnanhnkjaoaa.Sym
set_option linter.unusedVariables false
set_option linter.unusedSimpArgs false
open Go.RowKit Go.Proofs.Ytejdnanhnkjaoaa.G Go.Proofs.YtejdnanhnkjaoaaW.PrintWords Go.Proofs.YtejdnanhnkjaoaaW.PrintLast Go.Proofs.YtejdnanhnkjaoaaW.PrintMore Go.Proofs.Ytejdnanhnkjaoaa.Bit
theorem plain_zero (s : ByteArray) : plainOf s = !decide ((0 : UInt8) ∈ s.data.toList) := by
  unfold plainOf
  have := indexByte_zero s.data.toList
  by_cases h : (0 : UInt8) ∈ s.data.toList
  · rw [decide_eq_true h, decide_eq_false (by have := this.2 h; omega)]; rfl
  · rw [decide_eq_false h, decide_eq_true (by by_cases c : 0 ≤ Lib.indexByte s.data.toList 0; exact absurd (this.1 c) h; omega)]; rfl
theorem among_pos (l : List ByteArray) (s : ByteArray) : among l s = decide (pos l s.data.toList < l.length) := by
  unfold among pos
  induction l with
  | nil => simp
  | cons x l ih =>
    rw [List.any_cons, ih, List.findIdx_cons]
    cases h : (x.data.toList == s.data.toList)
    · simp
    · simp
theorem pos_le (l : List ByteArray) (s : List UInt8) : pos l s ≤ l.length := List.findIdx_le_length
theorem good_j2 (k : Nat) (c : Bool) (x : S58) : gangwayref08_good.j2 (k + 1) c x.f0 x.f1 x.f2 x.f3 x.f4 x.f5 = some (c && (x.f1.toList != [] || decide (x.f4 ≠ 0 ∧ x.f2 = 0 ∧ x.f3 = 0)) && (x.f0.toList != [] || decide (x.f4 = 0))) := by
  simp only [gangwayref08_good.j2]
  cases c
  · simp
  · by_cases h1 : x.f1.toList = [] <;> by_cases h0 : x.f0.toList = [] <;> by_cases h4 : x.f4 = 0 <;> by_cases h2 : x.f2 = 0 <;> by_cases h3 : x.f3 = 0 <;> simp [h1, h0, h4, h2, h3]
theorem good_j1 (k : Nat) (c : Bool) (x : S58) : gangwayref08_good.j1 (k + 2) c x.f0 x.f1 x.f2 x.f3 x.f4 x.f5 = some (!c && decide (x.f5 = 0 ∨ x.f5 = 1 ∨ x.f5 = 2 ∨ x.f5 = 6 ∨ x.f5 = 10) && (x.f1.toList != [] || decide (x.f4 ≠ 0 ∧ x.f2 = 0 ∧ x.f3 = 0)) && (x.f0.toList != [] || decide (x.f4 = 0))) := by
  simp only [gangwayref08_good.j1]
  simp only [good_j2]
  generalize (x.f1.toList != [] || decide (x.f4 ≠ 0 ∧ x.f2 = 0 ∧ x.f3 = 0)) = p
  generalize (x.f0.toList != [] || decide (x.f4 = 0)) = q
  cases c
  · by_cases h0 : x.f5 = 0
    · simp [h0]
    · by_cases h1 : x.f5 = 1
      · simp [h1]
      · by_cases h2 : x.f5 = 2
        · simp [h2]
        · by_cases h6 : x.f5 = 6
          · simp [h6]
          · by_cases h10 : x.f5 = 10
            · simp [h10]
            · simp [h0, h1, h2, h6, h10]
  · simp
theorem good_j0 (k : Nat) (c : Bool) (x : S58) : gangwayref08_good.j0 (k + 3) c x.f0 x.f1 x.f2 x.f3 x.f4 x.f5 = some (!c && decide (0 ≤ x.f4 ∧ x.f4 ≤ 2) && decide (x.f5 = 0 ∨ x.f5 = 1 ∨ x.f5 = 2 ∨ x.f5 = 6 ∨ x.f5 = 10) && (x.f1.toList != [] || decide (x.f4 ≠ 0 ∧ x.f2 = 0 ∧ x.f3 = 0)) && (x.f0.toList != [] || decide (x.f4 = 0))) := by
  simp only [gangwayref08_good.j0]
  simp only [good_j1]
  generalize (x.f1.toList != [] || decide (x.f4 ≠ 0 ∧ x.f2 = 0 ∧ x.f3 = 0)) = p
  generalize (x.f0.toList != [] || decide (x.f4 = 0)) = q
  generalize (decide (x.f5 = 0 ∨ x.f5 = 1 ∨ x.f5 = 2 ∨ x.f5 = 6 ∨ x.f5 = 10)) = r
  cases c
  · rw [if_neg (by decide)]
    by_cases a1 : x.f4 = 0
    · rw [if_pos a1, decide_eq_true (show 0 ≤ x.f4 ∧ x.f4 ≤ 2 by omega)]; simp
    · rw [if_neg a1]
      by_cases a2 : x.f4 = 1
      · rw [if_pos a2, decide_eq_true (show 0 ≤ x.f4 ∧ x.f4 ≤ 2 by omega)]; simp
      · rw [if_neg a2]
        by_cases a3 : x.f4 = 2
        · rw [decide_eq_true (show 0 ≤ x.f4 ∧ x.f4 ≤ 2 by omega), a3]; simp
        · rw [decide_eq_false (show ¬ (0 ≤ x.f4 ∧ x.f4 ≤ 2) by omega), show (x.f4 != 2) = true from bne_iff_ne.2 a3]; simp
  · simp
def valOf (x : S58) : Bool := decide (0 ≤ x.f2 ∧ x.f2 ≤ 4611686018427387904 ∧ 0 ≤ x.f3 ∧ x.f3 ≤ 4611686018427387904)
theorem good_vals (k : Nat) (x : S58) : (if x.f2 < 0 then gangwayref08_good.j0 (k + 3) true x.f0 x.f1 x.f2 x.f3 x.f4 x.f5 else if x.f2 > 4611686018427387904 then gangwayref08_good.j0 (k + 3) true x.f0 x.f1 x.f2 x.f3 x.f4 x.f5 else if x.f3 < 0 then gangwayref08_good.j0 (k + 3) true x.f0 x.f1 x.f2 x.f3 x.f4 x.f5 else gangwayref08_good.j0 (k + 3) (decide (x.f3 > 4611686018427387904)) x.f0 x.f1 x.f2 x.f3 x.f4 x.f5) = gangwayref08_good.j0 (k + 3) (!valOf x) x.f0 x.f1 x.f2 x.f3 x.f4 x.f5 := by
  unfold valOf
  by_cases a1 : x.f2 < 0
  · rw [if_pos a1, decide_eq_false (by omega)]; rfl
  rw [if_neg a1]
  by_cases a2 : x.f2 > 4611686018427387904
  · rw [if_pos a2, decide_eq_false (by omega)]; rfl
  rw [if_neg a2]
  by_cases a3 : x.f3 < 0
  · rw [if_pos a3, decide_eq_false (by omega)]; rfl
  rw [if_neg a3]
  by_cases a4 : x.f3 > 4611686018427387904
  · rw [decide_eq_true a4, decide_eq_false (by omega)]; rfl
  · rw [decide_eq_false a4, decide_eq_true (by omega)]; rfl
theorem good_f (x : S58) (secs : List ByteArray) (h0 : x.f0.size ≤ 255) (hs : secs.length ≤ 64) (k : Nat) (hk : 400 ≤ k) : gangwayref08_good.f k x.f0 x.f1 x.f2 x.f3 x.f4 x.f5 secs = some (rightOf x secs) := by
  have hsplit : decide (0 ≤ x.f2 ∧ x.f2 ≤ 4611686018427387904 ∧ 0 ≤ x.f3 ∧ x.f3 ≤ 4611686018427387904 ∧ 0 ≤ x.f4 ∧ x.f4 ≤ 2) = (valOf x && decide (0 ≤ x.f4 ∧ x.f4 ≤ 2)) := by
    unfold valOf
    rw [← Bool.decide_and]
    congr 1
    apply propext
    constructor <;> intro h <;> omega
  unfold gangwayref08_good.f rightOf
  rw [rzero_f x.f0 (by omega) k (by omega), Option.bind_some, hsplit, plain_zero]
  obtain ⟨m, rfl⟩ : ∃ m, k = m + 3 := ⟨k - 3, by omega⟩
  generalize hz : decide ((0 : UInt8) ∈ x.f0.data.toList) = z
  cases z
  · rw [if_neg (by decide)]
    by_cases h1 : x.f1.toList = []
    · rw [if_pos h1, good_vals, good_j0]; simp [h1]
    · rw [if_neg h1]
      by_cases h2 : x.f1.toList = [42]
      · rw [if_pos h2, good_vals, good_j0]; simp [h2]
      · rw [if_neg h2, rplace_f secs x.f1 (by omega) _ (by omega), Option.bind_some]
        have e1 : (x.f1.toList == []) = false := by simpa using h1
        have e2 : (x.f1.toList == [42]) = false := by simpa using h2
        rw [e1, e2, among_pos]
        have hle := pos_le secs x.f1.data.toList
        by_cases h3 : ((pos secs x.f1.data.toList : Nat) : Int) = (secs.length : Int)
        · rw [if_pos h3, good_j0, decide_eq_false (show ¬ pos secs x.f1.data.toList < secs.length by omega)]; simp
        · rw [if_neg h3, good_vals, good_j0, decide_eq_true (show pos secs x.f1.data.toList < secs.length by omega)]; simp
  · rw [if_pos rfl, good_j0]; simp
/-! the lists of names -/
theorem named_l0 (l : List ByteArray) (hl : l.length ≤ 64) (h255 : ∀ s ∈ l, s.size ≤ 255) (d : Nat) : ∀ k i, i + d = l.length → d + 400 ≤ k → gangwayref08_named.l0 k l (i : Int) = some (!(List.range' i d).any (secBad l)) := by
  induction d with
  | zero =>
    intro k i h hk
    obtain ⟨k, rfl⟩ : ∃ m, k = m + 1 := ⟨k - 1, by omega⟩
    rw [gangwayref08_named.l0, if_neg (by omega)]
    rfl
  | succ d ih =>
    intro k i h hk
    obtain ⟨k, rfl⟩ : ∃ m, k = m + 1 := ⟨k - 1, by omega⟩
    have hi : i < l.length := by omega
    rw [gangwayref08_named.l0, if_pos (by omega), if_pos (by omega), List.range'_succ, List.any_cons]
    have hz := h255 l[i] (List.getElem_mem hi)
    have hsb : secBad l i = (l[i].toList == [] || l[i].toList == [42] || decide ((0 : UInt8) ∈ l[i].data.toList) || decide (pos l l[i].data.toList < i)) := by
      unfold secBad
      rw [rdOf_get l i hi, plain_zero, Bool.not_not, among_pos]
      congr 1
      have e : pos l l[i].data.toList < i ↔ pos (l.take i) l[i].data.toList < (l.take i).length := by
        rw [List.length_take, Nat.min_eq_left (by omega)]
        unfold pos
        constructor
        · intro hp
          have h1 : l.findIdx (fun x => x.data.toList == l[i].data.toList) < l.length := by omega
          have h2 := List.findIdx_getElem (w := h1)
          have h3 : (l.take i).findIdx (fun x => x.data.toList == l[i].data.toList) < (l.take i).length := by
            apply List.findIdx_lt_length_of_exists
            exact ⟨l[l.findIdx (fun x => x.data.toList == l[i].data.toList)], List.mem_take_iff_getElem.2 ⟨_, by omega, rfl⟩, h2⟩
          rw [List.length_take, Nat.min_eq_left (by omega)] at h3
          exact h3
        · intro hp
          have h1 : (l.take i).findIdx (fun x => x.data.toList == l[i].data.toList) < (l.take i).length := by rw [List.length_take, Nat.min_eq_left (by omega)]; exact hp
          have h2 := List.findIdx_getElem (w := h1)
          have h3 : l.findIdx (fun x => x.data.toList == l[i].data.toList) ≤ (l.take i).findIdx (fun x => x.data.toList == l[i].data.toList) := by
            apply Nat.le_of_not_lt
            intro hc
            have := List.not_of_lt_findIdx hc
            rw [List.getElem_take] at h2
            rw [h2] at this
            cases this
          omega
      by_cases c : pos l l[i].data.toList < i
      · rw [decide_eq_true c, decide_eq_true (e.1 c)]
      · rw [decide_eq_false c, decide_eq_false (fun h => c (e.2 h))]
    rw [hsb, rdOf_get l i hi]
    by_cases h1 : l[i].toList = []
    · rw [if_pos h1]; simp [h1]
    rw [if_neg h1]
    by_cases h2 : l[i].toList = [42]
    · rw [if_pos h2]; simp [h2]
    rw [if_neg h2, rzero_f l[i] (by omega) k (by omega), Option.bind_some]
    have e1 : (l[i].toList == []) = false := by simpa using h1
    have e2 : (l[i].toList == [42]) = false := by simpa using h2
    rw [e1, e2]
    generalize decide ((0 : UInt8) ∈ l[i].data.toList) = z
    cases z
    · rw [if_neg (by decide), rplace_f l l[i] (by omega) k (by omega), Option.bind_some]
      by_cases h3 : pos l l[i].data.toList < i
      · rw [if_pos (by omega), decide_eq_true h3]; simp
      · rw [if_neg (by omega), decide_eq_false h3, wrap64_id (by omega) (by omega), show (i : Int) + 1 = ((i + 1 : Nat) : Int) from by omega, ih k (i + 1) (by omega) (by omega)]; simp
    · rw [if_pos rfl]; simp
theorem named_f (l : List ByteArray) (hl : l.length ≤ 64) (h255 : ∀ s ∈ l, s.size ≤ 255) (k : Nat) (hk : 500 ≤ k) : gangwayref08_named.f k l = some (!someOf (secBad l) l.length) := by
  have := named_l0 l hl h255 l.length k 0 (by omega) (by omega)
  unfold gangwayref08_named.f someOf
  rw [List.range_eq_range']
  exact this
/-! the symbols -/
theorem rd_sym (l : List S58) (i : Nat) (h : i < l.length) : rd_T58 l (i : Int) = l[i] := by simp [rd_T58, List.getD, h]
/-- has the symbol at place i the name of that at place j, both Local or both not? -/
def dup (l : List S58) (i j : Nat) : Bool := (rd_T58 l (i : Int)).f0.toList != [] && ((rd_T58 l (i : Int)).f0.toList == (rd_T58 l (j : Int)).f0.toList && (((rd_T58 l (i : Int)).f4 == 0) == ((rd_T58 l (j : Int)).f4 == 0)))
theorem right_bind {x : S58} {secs : List ByteArray} (h : rightOf x secs = true) : 0 ≤ x.f4 ∧ x.f4 ≤ 2 := by
  unfold rightOf at h
  simp only [Bool.and_eq_true, decide_eq_true_eq] at h
  omega
theorem key_iff {x y : S58} (hx : 0 ≤ x.f4 ∧ x.f4 ≤ 2) (hy : 0 ≤ y.f4 ∧ y.f4 ≤ 2) : symKey y = symKey x ↔ (x.f0.toList = y.f0.toList ∧ ((x.f4 == 0) == (y.f4 == 0)) = true) := by
  unfold symKey
  rw [Prod.mk.injEq, same_iff]
  have e : (if 1 < y.f4 then 1 else y.f4) = (if 1 < x.f4 then 1 else x.f4) ↔ (((x.f4 == 0) == (y.f4 == 0)) = true) := by
    generalize x.f4 = a at *
    generalize y.f4 = b at *
    have ha : a = 0 ∨ a = 1 ∨ a = 2 := by omega
    have hb : b = 0 ∨ b = 1 ∨ b = 2 := by omega
    rcases ha with rfl | rfl | rfl <;> rcases hb with rfl | rfl | rfl <;> decide
  rw [e]
  constructor
  · rintro ⟨h1, h2⟩; exact ⟨h1.symm, h2⟩
  · rintro ⟨h1, h2⟩; exact ⟨h1.symm, h2⟩
theorem bad_dup (l : List S58) (secs : List ByteArray) (i : Nat) (hi : i < l.length) (hr : ∀ j (h : j < l.length), j ≤ i → rightOf l[j] secs = true) : symBad l secs i = (List.range' 0 i).any (dup l i) := by
  unfold symBad
  rw [rd_sym l i hi, hr i hi (Nat.le_refl _)]
  simp only [Bool.not_true, Bool.false_or]
  have hb := right_bind (hr i hi (Nat.le_refl _))
  by_cases hn : l[i].f0.toList = []
  · have : ∀ j, dup l i j = false := fun j => by unfold dup; rw [rd_sym l i hi, hn]; rfl
    rw [hn]
    rw [show (([] : List UInt8) != []) = false from rfl, Bool.false_and]
    symm
    rw [List.any_eq_false]
    intro j _
    rw [this]; decide
  · have hn' : (l[i].f0.toList != []) = true := bne_iff_ne.2 hn
    rw [hn', Bool.true_and]
    rw [Bool.eq_iff_iff, decide_eq_true_eq, List.count_pos_iff, List.mem_map, List.any_eq_true]
    constructor
    · rintro ⟨y, hy, he⟩
      obtain ⟨j, hj, rfl⟩ := List.mem_take_iff_getElem.1 hy
      have hj2 : j < l.length := by omega
      refine ⟨j, by simp; omega, ?_⟩
      have := (key_iff hb (right_bind (hr j hj2 (by omega)))).1 he
      unfold dup
      rw [rd_sym l i hi, rd_sym l j hj2, hn', this.2, beq_iff_eq.2 this.1]
      rfl
    · rintro ⟨j, hj, he⟩
      have hj1 : j < i := by simp at hj; omega
      have hj2 : j < l.length := by omega
      refine ⟨l[j], List.mem_take_iff_getElem.2 ⟨j, by omega, rfl⟩, ?_⟩
      unfold dup at he
      rw [rd_sym l i hi, rd_sym l j hj2, hn'] at he
      simp only [Bool.true_and, Bool.and_eq_true] at he
      exact (key_iff hb (right_bind (hr j hj2 (by omega)))).2 ⟨beq_iff_eq.1 he.1, he.2⟩
theorem check_l3 (l : List S58) (secs : List ByteArray) (hl : l.length ≤ 2000) (i : Nat) (hi : i < l.length) (r : Int) (h : ∃ k, gangwayref08_Check.l2 k l secs ((i + 1 : Nat) : Int) = some r) (d : Nat) : ∀ j, j + d = i → ∃ k, gangwayref08_Check.l3 k l secs (i : Int) (j : Int) = some (if (List.range' j d).any (dup l i) then 80 else r) := by
  induction d with
  | zero =>
    intro j hj
    obtain ⟨k, hk⟩ := h
    refine ⟨k + 1, ?_⟩
    rw [gangwayref08_Check.l3, if_neg (by omega), wrap64_id (by omega) (by omega), show (i : Int) + 1 = ((i + 1 : Nat) : Int) from by omega, hk]
    rfl
  | succ d ih =>
    intro j hj
    obtain ⟨k, hk⟩ := ih (j + 1) (by omega)
    refine ⟨k + 1, ?_⟩
    rw [gangwayref08_Check.l3, if_pos (by omega), if_pos (by omega), if_pos (by omega), wrap64_id (by omega) (by omega), show (j : Int) + 1 = ((j + 1 : Nat) : Int) from by omega, hk, List.range'_succ, List.any_cons]
    have hd : dup l i j = ((rd_T58 l (i : Int)).f0.toList != [] && ((rd_T58 l (i : Int)).f0.toList == (rd_T58 l (j : Int)).f0.toList && (((rd_T58 l (i : Int)).f4 == 0) == ((rd_T58 l (j : Int)).f4 == 0)))) := rfl
    rw [hd]
    by_cases h1 : (rd_T58 l (i : Int)).f0.toList = []
    · rw [if_pos h1, show ((rd_T58 l (i : Int)).f0.toList != []) = false from by rw [h1]; rfl]; rfl
    · rw [if_neg h1, if_pos (by omega), if_pos (by omega), show ((rd_T58 l (i : Int)).f0.toList != []) = true from bne_iff_ne.2 h1]
      by_cases h2 : (rd_T58 l (i : Int)).f0.toList = (rd_T58 l (j : Int)).f0.toList
      · rw [if_pos h2, beq_iff_eq.2 h2]
        generalize (((rd_T58 l (i : Int)).f4 == 0) == ((rd_T58 l (j : Int)).f4 == 0)) = q
        cases q <;> rfl
      · rw [if_neg h2, beq_eq_false_iff_ne.2 h2]; rfl
theorem check_l2 (l : List S58) (secs : List ByteArray) (hl : l.length ≤ 2000) (hs : secs.length ≤ 64) (h255 : ∀ x ∈ l, x.f0.size ≤ 255) (d : Nat) : ∀ i, i + d = l.length → (∀ j (h : j < l.length), j < i → rightOf l[j] secs = true) → ∃ k, gangwayref08_Check.l2 k l secs (i : Int) = some (if (List.range' i d).any (symBad l secs) then 80 else 0) := by
  induction d with
  | zero =>
    intro i hi _
    refine ⟨1, ?_⟩
    rw [gangwayref08_Check.l2, if_neg (by omega)]
    rfl
  | succ d ih =>
    intro i hi hr
    have hil : i < l.length := by omega
    have hx := h255 l[i] (List.getElem_mem hil)
    cases hg : rightOf l[i] secs with
    | false =>
      refine ⟨401, ?_⟩
      have hb : symBad l secs i = true := by unfold symBad; rw [rd_sym l i hil, hg]; rfl
      rw [gangwayref08_Check.l2, if_pos (by omega), if_pos (by omega), rd_sym l i hil, good_f l[i] secs hx hs 400 (by omega), Option.bind_some, hg, if_neg (by decide), List.range'_succ, List.any_cons, hb]
      rfl
    | true =>
      have hr2 : ∀ j (h : j < l.length), j < i + 1 → rightOf l[j] secs = true := fun j h hj => by
        rcases Nat.lt_or_ge j i with c | c
        · exact hr j h c
        · have : j = i := by omega
          subst this; exact hg
      obtain ⟨k0, hk0⟩ := ih (i + 1) (by omega) hr2
      obtain ⟨k1, hk1⟩ := check_l3 l secs hl i hil _ ⟨k0, hk0⟩ i 0 (by omega)
      refine ⟨k1 + 400 + 1, ?_⟩
      rw [gangwayref08_Check.l2, if_pos (by omega), if_pos (by omega), rd_sym l i hil, good_f l[i] secs hx hs _ (by omega), Option.bind_some, hg, if_pos rfl, List.range'_succ, List.any_cons, bad_dup l secs i hil (fun j h hj => hr2 j h (by omega))]
      have := rounds_to (g := fun k => gangwayref08_Check.l3 k l secs (i : Int) 0) (fun k => (gangwayref08_Check.mono_l k).2.2.2.2 _ _ _ _) (show k1 ≤ k1 + 400 by omega) hk1
      refine this.trans ?_
      cases (List.range' 0 i).any (dup l i) <;> rfl
theorem check_l1 (l : List S58) (secs : List ByteArray) (hs : secs.length * 16 ≤ 140737488351232) (d : Nat) : ∀ k i (long : Bool), i + d = secs.length → gangwayref08_Check.l1 (k + d + 1) l secs long (i : Int) = (if (long || (List.range' i d).any (longSec secs)) = true then some 6 else (gangwayref08_named.f k secs).bind fun t103 => if t103 = true then gangwayref08_Check.l2 k l secs 0 else some 80) := by
  induction d with
  | zero =>
    intro k i long h
    rw [gangwayref08_Check.l1, if_neg (by omega)]
    cases long <;> rfl
  | succ d ih =>
    intro k i long h
    rw [show k + (d + 1) + 1 = (k + d + 1) + 1 from by omega, gangwayref08_Check.l1, if_pos (by omega), wrap64_id (by omega) (by omega), show (i : Int) + 1 = ((i + 1 : Nat) : Int) from by omega, ih k (i + 1) _ (by omega), List.range'_succ, List.any_cons]
    cases long with
    | true => rfl
    | false =>
      rw [if_neg (by decide), if_pos (by omega), ih k (i + 1) _ (by omega)]
      rw [show decide (((rdOf ByteArray.empty secs (i : Int)).size : Int) > 255) = longSec secs i from by unfold longSec; congr 1; apply propext; constructor <;> intro h <;> omega]
      rfl
theorem check_l0 (l : List S58) (secs : List ByteArray) (hl : l.length * 64 ≤ 140737488351232) (d : Nat) : ∀ k i (long : Bool), i + d = l.length → gangwayref08_Check.l0 (k + d + 1) l secs long (i : Int) = gangwayref08_Check.l1 k l secs (long || (List.range' i d).any (longName l)) 0 := by
  induction d with
  | zero =>
    intro k i long h
    rw [gangwayref08_Check.l0, if_neg (by omega)]
    cases long <;> rfl
  | succ d ih =>
    intro k i long h
    rw [show k + (d + 1) + 1 = (k + d + 1) + 1 from by omega, gangwayref08_Check.l0, if_pos (by omega), wrap64_id (by omega) (by omega), show (i : Int) + 1 = ((i + 1 : Nat) : Int) from by omega, ih k (i + 1) _ (by omega), List.range'_succ, List.any_cons]
    cases long with
    | true => rfl
    | false =>
      rw [if_neg (by decide), if_pos (by omega), ih k (i + 1) _ (by omega)]
      rw [show decide (((rd_T58 l (i : Int)).f0.size : Int) > 255) = longName l i from by unfold longName; congr 1; apply propext; constructor <;> intro h <;> omega]
      rfl
theorem rcheck_f (l : List S58) (secs : List ByteArray) (hl : l.length * 64 ≤ 140737488351232) (hs : secs.length * 16 ≤ 140737488351232) : ∃ k, gangwayref08_Check.f k l secs = some (symCheck l secs) := by
  have h1 : ∀ k (b : Bool), gangwayref08_Check.j0 (k + secs.length + 1 + l.length + 1 + 1) l secs b = (if ((b || (List.range' 0 l.length).any (longName l)) || (List.range' 0 secs.length).any (longSec secs)) = true then some 6 else (gangwayref08_named.f k secs).bind fun t103 => if t103 = true then gangwayref08_Check.l2 k l secs 0 else some 80) := by
    intro k b
    rw [gangwayref08_Check.j0]
    have e0 := check_l0 l secs hl l.length (k + secs.length + 1) 0 b (by omega)
    have e1 := check_l1 l secs hs secs.length k 0 (b || (List.range' 0 l.length).any (longName l)) (by omega)
    exact e0.trans e1
  unfold symCheck
  rw [show someOf (longName l) l.length = (List.range' 0 l.length).any (longName l) from by unfold someOf; rw [List.range_eq_range'], show someOf (longSec secs) secs.length = (List.range' 0 secs.length).any (longSec secs) from by unfold someOf; rw [List.range_eq_range']]
  by_cases c1 : l.length > 2000
  · refine ⟨0 + secs.length + 1 + l.length + 1 + 1, ?_⟩
    unfold gangwayref08_Check.f
    rw [if_pos (by omega), h1, if_pos (show l.length > 2000 ∨ secs.length > 64 from .inl c1)]
    exact if_pos rfl
  by_cases c2 : secs.length > 64
  · refine ⟨0 + secs.length + 1 + l.length + 1 + 1, ?_⟩
    unfold gangwayref08_Check.f
    rw [if_neg (by omega), decide_eq_true (by omega), h1, if_pos (show l.length > 2000 ∨ secs.length > 64 from .inr c2)]
    exact if_pos rfl
  rw [if_neg (by omega)]
  by_cases c3 : ((List.range' 0 l.length).any (longName l) || (List.range' 0 secs.length).any (longSec secs)) = true
  · refine ⟨0 + secs.length + 1 + l.length + 1 + 1, ?_⟩
    unfold gangwayref08_Check.f
    rw [if_neg (by omega), decide_eq_false (by omega), h1, Bool.false_or, if_pos c3, if_pos c3]
  rw [if_neg c3]
  have c3' := Bool.eq_false_iff.2 c3
  rw [Bool.or_eq_false_iff] at c3'
  have hn : ∀ x ∈ l, x.f0.size ≤ 255 := by
    intro x hx
    obtain ⟨i, hi, rfl⟩ := List.mem_iff_getElem.1 hx
    have := List.any_eq_false.1 c3'.1 i (by simp; omega)
    unfold longName at this
    rw [rd_sym l i hi] at this
    simp at this
    exact this
  have hsn : ∀ x ∈ secs, x.size ≤ 255 := by
    intro x hx
    obtain ⟨i, hi, rfl⟩ := List.mem_iff_getElem.1 hx
    have := List.any_eq_false.1 c3'.2 i (by simp; omega)
    unfold longSec at this
    rw [rdOf_get secs i hi] at this
    simp at this
    exact this
  obtain ⟨k2, hk2⟩ := check_l2 l secs (by omega) (by omega) hn l.length 0 (by omega) (fun j _ h => absurd h (by omega))
  refine ⟨(k2 + 500) + secs.length + 1 + l.length + 1 + 1, ?_⟩
  unfold gangwayref08_Check.f
  rw [if_neg (by omega), decide_eq_false (by omega), h1, Bool.false_or, if_neg c3, named_f secs (by omega) hsn _ (by omega), Option.bind_some]
  have := rounds_to (g := fun k => gangwayref08_Check.l2 k l secs 0) (fun k => (gangwayref08_Check.mono_l k).2.2.2.1 _ _ _) (show k2 ≤ k2 + 500 by omega) hk2
  rw [show someOf (symBad l secs) l.length = (List.range' 0 l.length).any (symBad l secs) from by unfold someOf; rw [List.range_eq_range']]
  cases hsb : someOf (secBad secs) secs.length with
  | true => rfl
  | false =>
    rw [if_neg (show ¬ (false = true) by decide)]
    exact (if_pos rfl).trans this
end Go.Proofs.Ytejdnanhnkjaoaa.Sym
