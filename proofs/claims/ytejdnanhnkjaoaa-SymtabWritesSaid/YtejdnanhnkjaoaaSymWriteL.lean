/- The reference's symbols as bytes are the program's. -/
import Derived.Test.YtejdnanhnkjaoaaSymCheck
import Derived.Test.YtejdnanhnkjaoaaSymWrite
import Derived.Test.YtejdnanhnkjaoaaGf22
import Derived.Test.YtejdnanhnkjaoaaGf25
namespace Go.Proofs.Ytejdnanhnkjaoaa.SymW
set_option linter.unusedVariables false
set_option linter.unusedSimpArgs false
open Go.RowKit Go.Proofs.Ytejdnanhnkjaoaa.G Go.Proofs.YtejdnanhnkjaoaaW.PrintWords Go.Proofs.YtejdnanhnkjaoaaW.PrintLast Go.Proofs.YtejdnanhnkjaoaaW.PrintMore Go.Proofs.Ytejdnanhnkjaoaa.Bit Go.Proofs.Ytejdnanhnkjaoaa.Sym
theorem ord_l1 (l : List S58) (hl : l.length ≤ 1000000) (d : Nat) : ∀ k i (acc : List S58) (n : Int), i + d = l.length → acc.length ≤ 1000000 + i → gangwayref08_Ordered.l1 (k + d + 1) l acc n (i : Int) = some (acc ++ globals (l.drop i), n) := by
  induction d with
  | zero =>
    intro k i acc n h ha
    rw [gangwayref08_Ordered.l1, if_neg (by omega), List.drop_of_length_le (by omega)]
    simp [globals]
  | succ d ih =>
    intro k i acc n h ha
    have hi : i < l.length := by omega
    have hd : globals (l.drop i) = (if l[i].f4 = 0 then [] else [l[i]]) ++ globals (l.drop (i + 1)) := by
      rw [List.drop_eq_getElem_cons hi]
      unfold globals
      rw [List.filter_cons]
      by_cases c : l[i].f4 = 0 <;> simp [c]
    rw [show k + (d + 1) + 1 = (k + d + 1) + 1 from by omega, gangwayref08_Ordered.l1, if_pos (by omega), if_pos (by omega), wrap64_id (by omega) (by omega), show (i : Int) + 1 = ((i + 1 : Nat) : Int) from by omega, rd_sym l i hi, hd]
    by_cases c : l[i].f4 = 0
    · rw [if_pos c, if_pos c, ih k (i + 1) acc n (by omega) (by omega)]
      rfl
    · rw [if_neg c, if_neg c, if_pos (by omega), ih k (i + 1) _ n (by omega) (by simp; omega), List.append_assoc]
theorem ord_l0 (l : List S58) (hl : l.length ≤ 1000000) (d : Nat) : ∀ k i (acc : List S58), i + d = l.length → acc.length ≤ i → gangwayref08_Ordered.l0 (k + d + 1) l acc (i : Int) = gangwayref08_Ordered.l1 k l (acc ++ locals (l.drop i)) ((acc ++ locals (l.drop i)).length : Int) 0 := by
  induction d with
  | zero =>
    intro k i acc h ha
    rw [gangwayref08_Ordered.l0, if_neg (by omega), List.drop_of_length_le (by omega)]
    simp [locals]
  | succ d ih =>
    intro k i acc h ha
    have hi : i < l.length := by omega
    have hd : locals (l.drop i) = (if l[i].f4 = 0 then [l[i]] else []) ++ locals (l.drop (i + 1)) := by
      rw [List.drop_eq_getElem_cons hi]
      unfold locals
      rw [List.filter_cons]
      by_cases c : l[i].f4 = 0 <;> simp [c]
    rw [show k + (d + 1) + 1 = (k + d + 1) + 1 from by omega, gangwayref08_Ordered.l0, if_pos (by omega), if_pos (by omega), wrap64_id (by omega) (by omega), show (i : Int) + 1 = ((i + 1 : Nat) : Int) from by omega, rd_sym l i hi, hd]
    by_cases c : l[i].f4 = 0
    · rw [if_pos c, if_pos c, if_pos (by omega), ih k (i + 1) _ (by omega) (by simp; omega), List.append_assoc]
    · rw [if_neg c, if_neg c, ih k (i + 1) acc (by omega) (by omega)]
      rfl
theorem locals_le (l : List S58) : (locals l).length ≤ l.length := List.length_filter_le _ _
theorem ord_f (l : List S58) (hl : l.length ≤ 1000000) (k : Nat) : gangwayref08_Ordered.f (k + l.length + 1 + l.length + 1) l = some (ordered l, ((locals l).length : Int)) := by
  unfold gangwayref08_Ordered.f
  have h0 := ord_l0 l hl l.length (k + l.length + 1) 0 [] (by omega) (by simp)
  have hle := locals_le l
  have h1 := ord_l1 l hl l.length k 0 ([] ++ locals (l.drop 0)) (([] ++ locals (l.drop 0)).length : Int) (by omega) (by simp; omega)
  refine h0.trans (h1.trans ?_)
  simp [ordered]
theorem leB_get (s : Nat) : ∀ (u : Int) (m : Nat), m < s → (Leb.leB u s)[m]? = some (u / 256 ^ m % 256) := by
  induction s with
  | zero => intro u m h; omega
  | succ s ih =>
    intro u m h
    cases m with
    | zero => simp [Leb.leB]
    | succ m =>
      simp only [Leb.leB, List.getElem?_cons_succ]
      rw [ih _ m (by omega), Leb.pow256, Int.ediv_ediv_of_nonneg (by omega)]
theorem putL_zero (n : Int) : putL n 0 = [] := by simp [putL]
theorem putL_succ (n : Int) (m : Nat) (h : m < 8) : putL n (m + 1) = putL n m ++ [n / 256 ^ m % 256] := by
  unfold putL
  rw [List.take_add_one, leB_get 8 _ m h]
  have e : n % 18446744073709551616 / 256 ^ m % 256 = n / 256 ^ m % 256 := by
    have hm : m = 0 ∨ m = 1 ∨ m = 2 ∨ m = 3 ∨ m = 4 ∨ m = 5 ∨ m = 6 ∨ m = 7 := by omega
    rcases hm with rfl | rfl | rfl | rfl | rfl | rfl | rfl | rfl <;> simp only [Int.pow_zero, Int.pow_succ, Int.one_mul] <;> omega
  rw [e]
  rfl
theorem shr_i64 (u : Int) (i : Nat) (hi : i ≤ 7) : shr .i64 u (IntKind.u64.wrap (wrap64 (8 * (i : Int)))) = u / 256 ^ i := by
  unfold shr
  rw [wrap64_id (by omega) (by omega), wrap_u64, Int.emod_eq_of_lt (by omega) (by omega), show (8 * (i : Int)).toNat = 8 * i from by omega, Nat.min_eq_left (by simp [IntKind.bits]; omega), show (2 : Int) ^ (8 * i) = 256 ^ i from by rw [Int.pow_mul]; rfl]
theorem low_l0 (n : Int) (s : Nat) (hs : s ≤ 8) (b : List Int) (hb : b.length ≤ 1000000) (d : Nat) : ∀ k i, i + d = s → d < k → gangwayref08_low.l0 k (b ++ putL n i) n (s : Int) (i : Int) = some (b ++ putL n s) := by
  induction d with
  | zero =>
    intro k i h hk
    obtain ⟨k, rfl⟩ : ∃ m, k = m + 1 := ⟨k - 1, by omega⟩
    obtain rfl : i = s := by omega
    rw [gangwayref08_low.l0, if_neg (by omega)]
  | succ d ih =>
    intro k i h hk
    obtain ⟨k, rfl⟩ : ∃ m, k = m + 1 := ⟨k - 1, by omega⟩
    have hp := putL_le n i
    rw [gangwayref08_low.l0, if_pos (by omega), shr_i64 n i (by omega), if_pos (by rw [wrap_u64]; omega), if_pos (by rw [List.length_append]; omega), wrap64_id (n := (i : Int) + 1) (by omega) (by omega), show (i : Int) + 1 = ((i + 1 : Nat) : Int) from by omega, List.append_assoc, ← putL_succ n i (by omega), ih k (i + 1) (by omega) (by omega)]
theorem low_f (n : Int) (s : Nat) (hs : s ≤ 8) (b : List Int) (hb : b.length ≤ 1000000) (k : Nat) (hk : 10 ≤ k) : gangwayref08_low.f k b n (s : Int) = some (b ++ putL n s) := by
  have := low_l0 n s hs b hb s k 0 (by omega) (by omega)
  rw [putL_zero, List.append_nil] at this
  exact this
theorem putL_one (n : Int) : putL n 1 = [n % 256] := by
  rw [putL_succ n 0 (by omega), putL_zero]
  simp
theorem idxL_pos (l : List ByteArray) (s : ByteArray) : ∀ i : Int, idxL l s i = if pos l s.data.toList < l.length then i + pos l s.data.toList else -1 := by
  induction l with
  | nil => intro i; simp [idxL, pos]
  | cons x l ih =>
    intro i
    simp only [idxL]
    unfold pos at *
    rw [List.findIdx_cons]
    by_cases h : s.toList = x.toList
    · have h2 : (x.data.toList == s.data.toList) = true := beq_iff_eq.2 ((same_iff _ _).1 h).symm
      rw [if_pos h, h2]
      simp
    · have h2 : (x.data.toList == s.data.toList) = false := beq_eq_false_iff_ne.2 (fun e => h ((same_iff _ _).2 e.symm))
      rw [if_neg h, h2, ih]
      simp only [cond_false, List.length_cons]
      by_cases c : l.findIdx (fun x => x.data.toList == s.data.toList) < l.length
      · rw [if_pos c, if_pos (by omega)]; omega
      · rw [if_neg c, if_neg (by omega)]
theorem names_l (l : List ByteArray) (o : List S58) (n : Int) (ho : o.length ≤ 1000000) (d : Nat) : ∀ k i, i + d = o.length → gangwayref08_Write.l0 (k + d + 1) l o n (namesOf (o.take i)) (i : Int) = ((gangwayref08_Strings.f k (namesOf o)).bind fun bt110 => (if bt110.2.2 = 0 then (if 24 ≤ 281474976710656 then (gangwayref08_Write.l1 k l o n bt110.1 bt110.2.1 (List.replicate 24 0) 0) else (none)) else (some (([] : List Int), ([] : List Int), 0, bt110.2.2)))) := by
  induction d with
  | zero =>
    intro k i h
    rw [gangwayref08_Write.l0, if_neg (by omega), List.take_of_length_le (by omega)]
  | succ d ih =>
    intro k i h
    have hi : i < o.length := by omega
    have e : namesOf (o.take i) ++ [o[i].f0] = namesOf (o.take (i + 1)) := by
      unfold namesOf
      rw [← List.take_append_getElem (l := o) (i := i) hi, List.map_append]
      rfl
    rw [show k + (d + 1) + 1 = (k + d + 1) + 1 from by omega, gangwayref08_Write.l0, if_pos (by omega), if_pos (by omega), if_pos (by simp [namesOf]; omega), wrap64_id (by omega) (by omega), show (i : Int) + 1 = ((i + 1 : Nat) : Int) from by omega, rd_sym o i hi, e, ih k (i + 1) (by omega)]
theorem entries_l (secs : List ByteArray) (o : List S58) (n : Int) (strs at_ : List Int) (ho : o.length ≤ 2000) (hs : secs.length ≤ 64) (ha : at_.length = o.length) (hr : ∀ x ∈ o, rightOf x secs = true) (d : Nat) : ∀ k i, i + d = o.length → 2 * d + 200 ≤ k → gangwayref08_Write.l1 k secs o n strs at_ (List.replicate 24 0 ++ symsOf secs (o.take i) (at_.take i)) (i : Int) = some (List.replicate 24 0 ++ symsOf secs o at_, strs, wrap64 (1 + n), 0) := by
  induction d with
  | zero =>
    intro k i h hk
    obtain ⟨k, rfl⟩ : ∃ m, k = m + 1 := ⟨k - 1, by omega⟩
    rw [gangwayref08_Write.l1, if_neg (by omega), List.take_of_length_le (by omega), List.take_of_length_le (by omega)]
  | succ d ih =>
    intro k i h hk
    obtain ⟨k, rfl⟩ : ∃ m, k = m + 2 := ⟨k - 2, by omega⟩
    have hi : i < o.length := by omega
    have hra := hr o[i] (List.getElem_mem hi)
    have hlen : (List.replicate 24 (0 : Int) ++ symsOf secs (o.take i) (at_.take i)).length ≤ 200000 := by
      have h1 := symsOf_le secs (o.take i) (at_.take i)
      have h2 : (o.take i).length ≤ i := by rw [List.length_take]; omega
      rw [List.length_append, List.length_replicate]
      omega
    have hstep : ∀ P : Int, placeOf secs o[i].f1 = P → gangwayref08_Write.j2 (k + 1) secs o n strs at_ (List.replicate 24 0 ++ symsOf secs (o.take i) (at_.take i)) (i : Int) P o[i].f0 o[i].f1 o[i].f2 o[i].f3 o[i].f4 o[i].f5 = some (List.replicate 24 0 ++ symsOf secs o at_, strs, wrap64 (1 + n), 0) := by
      intro P hP
      have hih := ih k (i + 1) (by omega) (by omega)
      rw [symsOf_step secs o at_ i hi (by omega), ← List.append_assoc] at hih
      unfold entryB at hih
      rw [hP, putL_one, putL_one 0] at hih
      generalize List.replicate 24 (0 : Int) ++ symsOf secs (o.take i) (at_.take i) = B at *
      have hrd : rd at_ (i : Int) = at_[i] := rd_get at_ i (by omega)
      have p1 := putL_le at_[i] 4
      have p2 := putL_le P 2
      have p3 := putL_le o[i].f2 8
      rw [gangwayref08_Write.j2, if_pos (by omega), if_pos (by omega), hrd]
      have e1 := low_f at_[i] 4 (by omega) B (by omega) k (by omega)
      have e2 := low_f P 2 (by omega) (B ++ putL at_[i] 4 ++ [wrap64 (wrap64 (16 * o[i].f4) + o[i].f5) % 256, 0]) (by simp; omega) k (by omega)
      have e3 := low_f o[i].f2 8 (by omega) (B ++ putL at_[i] 4 ++ [wrap64 (wrap64 (16 * o[i].f4) + o[i].f5) % 256, 0] ++ putL P 2) (by simp; omega) k (by omega)
      have e4 := low_f o[i].f3 8 (by omega) (B ++ putL at_[i] 4 ++ [wrap64 (wrap64 (16 * o[i].f4) + o[i].f5) % 256, 0] ++ putL P 2 ++ putL o[i].f2 8) (by simp; omega) k (by omega)
      rw [show gangwayref08_low.f k B at_[i] 4 = _ from e1, Option.bind_some, Option.bind_some, if_pos (by simp; omega), show gangwayref08_low.f k _ P 2 = _ from e2, Option.bind_some, show gangwayref08_low.f k _ o[i].f2 8 = _ from e3, Option.bind_some, show gangwayref08_low.f k _ o[i].f3 8 = _ from e4, Option.bind_some, wrap64_id (n := (i : Int) + 1) (by omega) (by omega), show (i : Int) + 1 = ((i + 1 : Nat) : Int) from by omega, ← hih]
      congr 1
      simp
    rw [gangwayref08_Write.l1, if_pos (by omega), if_pos (by omega), rd_sym o i hi]
    by_cases c2 : o[i].f1.toList = [42]
    · rw [if_pos c2]
      exact hstep 65521 (by unfold placeOf; rw [if_neg (by rw [c2]; decide), if_pos c2])
    rw [if_neg c2]
    by_cases c1 : o[i].f1.toList = []
    · rw [if_pos c1]
      exact hstep 0 (by unfold placeOf; rw [if_pos c1])
    rw [if_neg c1, rplace_f secs o[i].f1 (by omega) _ (by omega), Option.bind_some]
    refine hstep _ ?_
    unfold placeOf
    rw [if_neg c1, if_neg c2, idxL_pos]
    have ham : among secs o[i].f1 = true := by
      unfold rightOf at hra
      simp only [Bool.and_eq_true, Bool.or_eq_true, beq_iff_eq] at hra
      rcases hra.1.1.1.1.2 with (h | h) | h
      · exact absurd h c1
      · exact absurd h c2
      · exact h
    rw [among_pos, decide_eq_true_eq] at ham
    rw [if_pos ham, Int.zero_add]
theorem ordered_mem {l : List S58} {x : S58} (h : x ∈ ordered l) : x ∈ l := by
  unfold ordered locals globals at h
  rcases List.mem_append.1 h with h | h <;> exact (List.mem_filter.1 h).1
/-- What a list that may be is. -/
theorem check_ok {l : List S58} {secs : List ByteArray} (h : symCheck l secs = 0) : l.length ≤ 2000 ∧ secs.length ≤ 64 ∧ (∀ x ∈ l, x.f0.size ≤ 255) ∧ (∀ x ∈ l, rightOf x secs = true) := by
  unfold symCheck at h
  split at h
  · cases h
  rename_i h1
  split at h
  · cases h
  rename_i h2
  split at h
  · cases h
  split at h
  · cases h
  rename_i h4
  rw [Bool.or_eq_true, not_or] at h2
  refine ⟨by omega, by omega, fun x hx => ?_, fun x hx => ?_⟩
  · obtain ⟨i, hi, rfl⟩ := List.mem_iff_getElem.1 hx
    have := List.any_eq_false.1 (Bool.eq_false_iff.2 h2.1) i (List.mem_range.2 hi)
    unfold longName at this
    rw [rd_sym l i hi] at this
    simp at this
    exact this
  · obtain ⟨i, hi, rfl⟩ := List.mem_iff_getElem.1 hx
    have := List.any_eq_false.1 (Bool.eq_false_iff.2 h4) i (List.mem_range.2 hi)
    unfold symBad at this
    rw [rd_sym l i hi] at this
    simp only [Bool.or_eq_true, not_or, Bool.not_eq_true', Bool.not_eq_false] at this
    exact this.1
theorem sum_le (l : List ByteArray) (h : ∀ s ∈ l, s.size ≤ 255) : (l.map ByteArray.size).sum ≤ 255 * l.length := by
  induction l with
  | nil => simp
  | cons x l ih =>
    have h1 := h x (by simp)
    have h2 := ih (fun s hs => h s (by simp [hs]))
    simp only [List.map_cons, List.sum_cons, List.length_cons]
    omega
/-- What Write answers, and that the reference answers the same. -/
theorem write_same (l : List S58) (secs : List ByteArray) (hl : l.length * 64 ≤ 140737488351232) (hs : secs.length * 16 ≤ 140737488351232) : ∃ r, writeF l secs = some r ∧ ∃ k, gangwayref08_Write.f k l secs = some r := by
  obtain ⟨k0, hk0⟩ := rcheck_f l secs hl hs
  by_cases hc : symCheck l secs = 0
  · obtain ⟨h1, h2, h3, h4⟩ := check_ok hc
    have hol := ordered_length l
    have hnl : (namesOf (ordered l)).length = l.length := by unfold namesOf; rw [List.length_map, hol]
    have hsz : ∀ s ∈ namesOf (ordered l), s.size ≤ 255 := by
      intro s hs
      obtain ⟨x, hx, rfl⟩ := List.mem_map.1 hs
      exact h3 x (ordered_mem hx)
    have hsum := sum_le _ hsz
    rw [hnl] at hsum
    have hro : ∀ x ∈ ordered l, rightOf x secs = true := fun x hx => h4 x (ordered_mem hx)
    have hle := locals_le l
    obtain ⟨K, hK⟩ : ∃ K, K = k0 + 2000000 := ⟨_, rfl⟩
    have href : ∀ r, symtab_Strings.f (namesOf (ordered l)) = some r → gangwayref08_Write.f K l secs = (if r.2.2 = 0 then gangwayref08_Write.l1 (K - l.length - 1) secs (ordered l) ((locals l).length : Int) r.1 r.2.1 (List.replicate 24 0) 0 else some ([], [], 0, r.2.2)) := by
      intro r hr
      unfold gangwayref08_Write.f
      rw [rounds_to (g := fun k => gangwayref08_Check.f k l secs) (gangwayref08_Check.mono l secs) (show k0 ≤ K by omega) hk0, Option.bind_some, hc, if_pos rfl]
      have ho := ord_f l (by omega) (K - l.length - 1 - l.length - 1)
      rw [show K - l.length - 1 - l.length - 1 + l.length + 1 + l.length + 1 = K from by omega] at ho
      rw [ho, Option.bind_some]
      have hn := names_l secs (ordered l) ((locals l).length : Int) (by omega) l.length (K - l.length - 1) 0 (by omega)
      rw [show K - l.length - 1 + l.length + 1 = K from by omega, List.take_zero] at hn
      refine hn.trans ?_
      rw [rstr_f (namesOf (ordered l)) (by omega) (fun s hs => by have := hsz s hs; omega) (by omega) _ (by omega), hr, Option.bind_some]
      rfl
    unfold writeF
    rw [if_neg (fun h => h hc), if_pos ⟨h1, h2⟩]
    rcases strings_table (namesOf (ordered l)) (by omega) (by omega) with h | h | ⟨b, a, h, ht⟩
    · rw [h]
      exact ⟨_, if_pos (by decide), _, (href _ h).trans (if_neg (by decide))⟩
    · rw [h]
      exact ⟨_, if_pos (by decide), _, (href _ h).trans (if_neg (by decide))⟩
    · have hal : a.length = l.length := by rw [ht.len, hnl]
      rw [h]
      refine ⟨(List.replicate 24 0 ++ symsOf secs (ordered l) a, b, 1 + ((locals l).length : Int), 0), ?_, K, ?_⟩
      · show (if (0 : Int) ≠ 0 then _ else _) = _
        rw [if_neg (by decide), if_pos hal]
      · rw [href _ h, if_pos rfl]
        have := entries_l secs (ordered l) ((locals l).length : Int) b a (by omega) h2 (by omega) hro l.length (K - l.length - 1) 0 (by omega) (by omega)
        rw [List.take_zero, List.take_zero] at this
        simp only [symsOf, List.append_nil] at this
        rw [wrap64_id (by omega) (by omega)] at this
        exact this
  · refine ⟨([], [], 0, symCheck l secs), ?_, k0, ?_⟩
    · unfold writeF
      rw [if_pos hc]
    · unfold gangwayref08_Write.f
      rw [hk0, Option.bind_some, if_neg hc]
theorem symbols_l0 (l : List S58) (hl : l.length ≤ 140737488351232) (d : Nat) : ∀ k i, i + d = l.length → d < k → gangwaylaw08_symbols.l0 k l l (i : Int) = some true := by
  induction d with
  | zero =>
    intro k i h hk
    obtain ⟨k, rfl⟩ : ∃ m, k = m + 1 := ⟨k - 1, by omega⟩
    rw [gangwaylaw08_symbols.l0, if_neg (by omega)]
  | succ d ih =>
    intro k i h hk
    obtain ⟨k, rfl⟩ : ∃ m, k = m + 1 := ⟨k - 1, by omega⟩
    rw [gangwaylaw08_symbols.l0, if_pos (by omega), if_pos (by omega), if_pos (by omega), wrap64_id (by omega) (by omega), show (i : Int) + 1 = ((i + 1 : Nat) : Int) from by omega, ih k (i + 1) (by omega) (by omega)]
    simp
theorem symbols_f (l : List S58) (hl : l.length ≤ 140737488351232) (k : Nat) (hk : l.length < k) : gangwaylaw08_symbols.f k l l = some true := by
  unfold gangwaylaw08_symbols.f
  rw [if_pos rfl]
  exact symbols_l0 l hl l.length k 0 (by omega) hk
end Go.Proofs.Ytejdnanhnkjaoaa.SymW
