/- What symtab.Write writes is read as it was. -/
import Derived.Test.YtejdnanhnkjaoaaSymBase
import Derived.Test.YtejdnanhnkjaoaaSymReadF
import Derived.Test.YtejdnanhnkjaoaaSymAtF
namespace Go.Proofs.Ytejdnanhnkjaoaa.SymB
set_option linter.unusedVariables false
set_option linter.unusedSimpArgs false
open Go.RowKit Go.Proofs.Ytejdnanhnkjaoaa.G Go.Proofs.YtejdnanhnkjaoaaW.PrintWords Go.Proofs.YtejdnanhnkjaoaaW.PrintLast Go.Proofs.YtejdnanhnkjaoaaW.PrintMore Go.Proofs.Ytejdnanhnkjaoaa.Bit Go.Proofs.Ytejdnanhnkjaoaa.Sym Go.Proofs.Ytejdnanhnkjaoaa.SymW Go.Proofs.Ytejdnanhnkjaoaa.SymR
theorem leB_take (s : Nat) : ∀ (u : Int) (k : Nat), k ≤ s → (Leb.leB u s).take k = Leb.leB u k := by
  induction s with
  | zero => intro u k h; obtain rfl : k = 0 := by omega
            rfl
  | succ s ih =>
    intro u k h
    cases k with
    | zero => rfl
    | succ k => simp only [Leb.leB, List.take_succ_cons, ih _ k (by omega)]
theorem putL_eq (n : Int) (k : Nat) (h : k ≤ 8) : putL n k = Leb.leB (n % 18446744073709551616) k := leB_take 8 _ k h
theorem putL_length (n : Int) (k : Nat) (h : k ≤ 8) : (putL n k).length = k := by rw [putL_eq n k h, Leb.leB_length]
theorem putL_range (n : Int) (k : Nat) (h : k ≤ 8) : ∀ b ∈ putL n k, 0 ≤ b ∧ b ≤ 255 := by rw [putL_eq n k h]; exact Leb.leB_range k _
theorem num_at (s : Nat) (hs : s = 1 ∨ s = 2 ∨ s = 4 ∨ s = 8) (n : Int) (h0 : 0 ≤ n) (h1 : n < 256 ^ s) (h2 : n ≤ 9223372036854775807) (ahead behind l : List Int) (hl : l = ahead ++ putL n s ++ behind) (hb : ∀ b ∈ l, 0 ≤ b ∧ b ≤ 255) (hm : l.length ≤ 1048576) (i : Int) (hi : i = ahead.length) : numR l i s = some n := by
  subst hi
  have hs8 : s ≤ 8 := by omega
  have hlen : l.length = ahead.length + s + behind.length := by rw [hl]; simp [putL_length n s hs8]; omega
  have hcut : (l.drop ahead.length).take s = putL n s := by
    rw [hl, List.append_assoc, List.drop_left]
    have := putL_length n s hs8
    exact List.take_left' this
  have hv : Leb.leN (putL n s) = n := by
    rw [putL_eq n s hs8, Leb.leN_leB]
    rcases hs with rfl | rfl | rfl | rfl <;> simp at h1 ⊢ <;> omega
  have hz : Leb.sizedB (s : Int) = true := by rcases hs with rfl | rfl | rfl | rfl <;> decide
  have hw : wrap64 n = n := by unfold wrap64; omega
  unfold numR
  rw [Leb.get_f l _ _ false hb (by omega) 12 (by omega)]
  unfold Leb.getV
  rw [if_pos hz, if_neg (by omega), Int.toNat_natCast, Int.toNat_natCast, hcut, hv]
  unfold Leb.sgnV
  simp [hw, h0]
theorem entryB_length (secs : List ByteArray) (x : S58) (a : Int) : (entryB secs x a).length = 24 := by
  unfold entryB
  simp only [List.length_append]
  rw [putL_length _ 4 (by omega), putL_length _ 1 (by omega), putL_length _ 1 (by omega), putL_length _ 2 (by omega), putL_length _ 8 (by omega), putL_length _ 8 (by omega)]
theorem entryB_range (secs : List ByteArray) (x : S58) (a : Int) : ∀ b ∈ entryB secs x a, 0 ≤ b ∧ b ≤ 255 := by
  intro b hb
  unfold entryB at hb
  simp only [List.mem_append] at hb
  rcases hb with ((((hb | hb) | hb) | hb) | hb) | hb
  · exact putL_range _ 4 (by omega) b hb
  · exact putL_range _ 1 (by omega) b hb
  · exact putL_range _ 1 (by omega) b hb
  · exact putL_range _ 2 (by omega) b hb
  · exact putL_range _ 8 (by omega) b hb
  · exact putL_range _ 8 (by omega) b hb
theorem symsOf_length (secs : List ByteArray) : ∀ (o : List S58) (a : List Int), o.length = a.length → (symsOf secs o a).length = 24 * o.length
  | [], _, _ => by simp [symsOf]
  | x :: o, [], h => by simp at h
  | x :: o, y :: a, h => by
    have := symsOf_length secs o a (by simpa using h)
    simp only [symsOf, List.length_append, entryB_length, List.length_cons]
    omega
theorem symsOf_range (secs : List ByteArray) : ∀ (o : List S58) (a : List Int), ∀ b ∈ symsOf secs o a, 0 ≤ b ∧ b ≤ 255
  | [], _ => by simp [symsOf]
  | x :: o, [] => by simp [symsOf]
  | x :: o, y :: a => by
    intro b hb
    simp only [symsOf, List.mem_append] at hb
    rcases hb with hb | hb
    · exact entryB_range secs x y b hb
    · exact symsOf_range secs o a b hb
theorem symsOf_split (secs : List ByteArray) : ∀ (o : List S58) (a : List Int) (i : Nat), o.length = a.length → symsOf secs o a = symsOf secs (o.take i) (a.take i) ++ symsOf secs (o.drop i) (a.drop i)
  | o, a, 0, h => by simp [symsOf]
  | [], a, i + 1, h => by simp [symsOf]
  | x :: o, [], i + 1, h => by simp at h
  | x :: o, y :: a, i + 1, h => by
    simp only [List.take_succ_cons, List.drop_succ_cons, symsOf, List.append_assoc]
    rw [symsOf_split secs o a i (by simpa using h)]
/-- An entry is read as the symbol. -/
theorem entry_read (secs : List ByteArray) (hsec : secs.length ≤ 64) (x : S58) (hx : rightOf x secs = true) (strs : List Int) (hst : strs.length ≤ 1048576) (a : Int) (ha : atOf strs a = (x.f0, 0)) (ahead behind l : List Int) (hl : l = ahead ++ entryB secs x a ++ behind) (hb : ∀ b ∈ l, 0 ≤ b ∧ b ≤ 255) (hm : l.length ≤ 1048576) (i : Int) (hi : i = ahead.length) : symR l strs secs i = some x := by
  have har : 0 ≤ a ∧ a < 1048576 := by
    unfold atOf at ha
    split at ha
    · have := (Prod.mk.inj ha).2; omega
    · rename_i hc; omega
  have hr := hx
  unfold rightOf at hr
  simp only [Bool.and_eq_true, decide_eq_true_eq, Bool.or_eq_true, beq_iff_eq] at hr
  obtain ⟨⟨⟨⟨⟨h1, h2⟩, h3⟩, h4⟩, h5⟩, h6⟩ := hr
  have hw1 : wrap64 (wrap64 (16 * x.f4) + x.f5) = 16 * x.f4 + x.f5 := by
    rw [wrap64_id (n := 16 * x.f4) (by omega) (by omega), wrap64_id (by omega) (by omega)]
  -- the place
  have hpl : ∃ p : Nat, SymW.placeOf secs x.f1 = (p : Int) ∧ (p = 0 ∨ p = 65521 ∨ (p ≤ secs.length)) ∧ (if (p : Int) = 0 then (⟨#[]⟩ : ByteArray) else if (p : Int) = 65521 then ⟨#[42]⟩ else rdOf ByteArray.empty secs ((p : Int) - 1)) = x.f1 := by
    unfold SymW.placeOf
    by_cases c1 : x.f1.toList = []
    · refine ⟨0, by rw [if_pos c1]; rfl, .inl rfl, ?_⟩
      rw [if_pos (show ((0 : Nat) : Int) = 0 by omega)]
      exact eq_of_data (by rw [← toList_data x.f1, c1])
    by_cases c2 : x.f1.toList = [42]
    · refine ⟨65521, by rw [if_neg c1, if_pos c2]; rfl, .inr (.inl rfl), ?_⟩
      rw [if_neg (by omega), if_pos (show ((65521 : Nat) : Int) = 65521 by omega)]
      exact eq_of_data (by rw [← toList_data x.f1, c2])
    have ham : among secs x.f1 = true := by
      rcases h2 with (h | h) | h
      · exact absurd h c1
      · exact absurd h c2
      · exact h
    rw [among_pos, decide_eq_true_eq] at ham
    refine ⟨1 + pos secs x.f1.data.toList, ?_, .inr (.inr (by omega)), ?_⟩
    · rw [if_neg c1, if_neg c2, idxL_pos, if_pos ham, Int.zero_add, wrap64_id (by omega) (by omega)]
      omega
    · rw [if_neg (by omega), if_neg (by omega), show ((1 + pos secs x.f1.data.toList : Nat) : Int) - 1 = (pos secs x.f1.data.toList : Int) from by omega, rdOf_get secs _ ham]
      have h2 := List.findIdx_getElem (p := fun y : ByteArray => y.data.toList == x.f1.data.toList) (xs := secs) (w := ham)
      exact eq_of_data (beq_iff_eq.1 h2)
  obtain ⟨p, hp1, hp2, hp3⟩ := hpl
  unfold entryB at hl
  rw [hw1, hp1] at hl
  have n1 := num_at 4 (by omega) a har.1 (by simp; omega) (by omega) ahead (putL (16 * x.f4 + x.f5) 1 ++ putL 0 1 ++ putL (p : Int) 2 ++ putL x.f2 8 ++ putL x.f3 8 ++ behind) l (by rw [hl]; simp) hb hm i hi
  have n2 := num_at 1 (by omega) (16 * x.f4 + x.f5) (by omega) (by simp; omega) (by omega) (ahead ++ putL a 4) (putL 0 1 ++ putL (p : Int) 2 ++ putL x.f2 8 ++ putL x.f3 8 ++ behind) l (by rw [hl]; simp) hb hm (i + 4) (by rw [List.length_append, putL_length _ 4 (by omega)]; omega)
  have n3 := num_at 2 (by omega) (p : Int) (by omega) (by simp; omega) (by omega) (ahead ++ putL a 4 ++ putL (16 * x.f4 + x.f5) 1 ++ putL 0 1) (putL x.f2 8 ++ putL x.f3 8 ++ behind) l (by rw [hl]; simp) hb hm (i + 6) (by simp only [List.length_append]; rw [putL_length _ 4 (by omega), putL_length _ 1 (by omega), putL_length _ 1 (by omega)]; omega)
  have n4 := num_at 8 (by omega) x.f2 (by omega) (by simp; omega) (by omega) (ahead ++ putL a 4 ++ putL (16 * x.f4 + x.f5) 1 ++ putL 0 1 ++ putL (p : Int) 2) (putL x.f3 8 ++ behind) l (by rw [hl]; simp) hb hm (i + 8) (by simp only [List.length_append]; rw [putL_length _ 4 (by omega), putL_length _ 1 (by omega), putL_length _ 1 (by omega), putL_length _ 2 (by omega)]; omega)
  have n5 := num_at 8 (by omega) x.f3 (by omega) (by simp; omega) (by omega) (ahead ++ putL a 4 ++ putL (16 * x.f4 + x.f5) 1 ++ putL 0 1 ++ putL (p : Int) 2 ++ putL x.f2 8) behind l (by rw [hl]; simp) hb hm (i + 16) (by simp only [List.length_append]; rw [putL_length _ 4 (by omega), putL_length _ 1 (by omega), putL_length _ 1 (by omega), putL_length _ 2 (by omega), putL_length _ 8 (by omega)]; omega)
  unfold symR
  rw [show numR l i 4 = some a from n1, Option.bind_some, at_f strs a (by omega) _ (by omega), ha]
  simp only
  rw [if_neg (fun h => h rfl), show numR l (i + 4) 1 = some _ from n2, Option.bind_some, show numR l (i + 6) 2 = some _ from n3, Option.bind_some, show numR l (i + 8) 8 = some _ from n4, Option.bind_some, show numR l (i + 16) 8 = some _ from n5, Option.bind_some, if_pos ⟨by omega, by omega, by omega⟩, hp3, show (16 * x.f4 + x.f5) / 16 = x.f4 from by omega, show (16 * x.f4 + x.f5) % 16 = x.f5 from by omega]
theorem symsR_of (l0 l1 : List Int) (l3 : List ByteArray) (o : List S58) (h : ∀ i (h : i < o.length), symR l0 l1 l3 (24 * ((i : Int) + 1)) = some o[i]) (d : Nat) : ∀ i, i + d = o.length → symsR l0 l1 l3 d i = some (o.drop i) := by
  induction d with
  | zero => intro i hi; rw [List.drop_of_length_le (by omega)]; rfl
  | succ d ih =>
    intro i hi
    have hil : i < o.length := by omega
    simp only [symsR]
    rw [h i hil, Option.bind_some, ih (i + 1) (by omega), List.drop_eq_getElem_cons hil]
    rfl
/-! the symbols in order: they may be, too -/
def clash (x y : S58) : Prop := x.f0.toList ≠ [] ∧ symKey x = symKey y
theorem clash_symm {x y : S58} (h : clash x y) : clash y x := by
  refine ⟨?_, h.2.symm⟩
  have h1 : x.f0.data.toList = y.f0.data.toList := (Prod.mk.inj h.2).1
  intro e
  apply h.1
  rw [toList_data] at e ⊢
  rw [h1, e]
theorem bad_iff (l : List S58) (secs : List ByteArray) (hr : ∀ x ∈ l, rightOf x secs = true) (i : Nat) (hi : i < l.length) : symBad l secs i = true ↔ ∃ j, ∃ h : j < i, clash l[i] (l[j]'(by omega)) := by
  unfold symBad
  rw [rd_sym l i hi, hr l[i] (List.getElem_mem hi)]
  simp only [Bool.not_true, Bool.false_or, Bool.and_eq_true, bne_iff_ne, decide_eq_true_eq, List.count_pos_iff, List.mem_map]
  constructor
  · rintro ⟨hn, y, hy, he⟩
    obtain ⟨j, hj, rfl⟩ := List.mem_take_iff_getElem.1 hy
    exact ⟨j, by omega, hn, he.symm⟩
  · rintro ⟨j, hj, hn, he⟩
    exact ⟨hn, l[j], List.mem_take_iff_getElem.2 ⟨j, by omega, rfl⟩, he.symm⟩
theorem pair_iff (l : List S58) (secs : List ByteArray) (hr : ∀ x ∈ l, rightOf x secs = true) : someOf (symBad l secs) l.length = false ↔ l.Pairwise (fun x y => ¬ clash x y) := by
  unfold someOf
  rw [List.any_eq_false, List.pairwise_iff_getElem]
  constructor
  · intro h i j hi hj hij hc
    exact h j (List.mem_range.2 hj) ((bad_iff l secs hr j hj).2 ⟨i, hij, clash_symm hc⟩)
  · intro h i hi hb
    have hil := List.mem_range.1 hi
    obtain ⟨j, hj, hc⟩ := (bad_iff l secs hr i hil).1 hb
    exact h j i (by omega) hil hj (clash_symm hc)
theorem ordered_perm (l : List S58) : (ordered l).Perm l := List.filter_append_perm _ _
theorem long_iff (l : List S58) : someOf (longName l) l.length = false ↔ ∀ x ∈ l, x.f0.size ≤ 255 := by
  unfold someOf
  rw [List.any_eq_false]
  constructor
  · intro h x hx
    obtain ⟨i, hi, rfl⟩ := List.mem_iff_getElem.1 hx
    have := h i (List.mem_range.2 hi)
    unfold longName at this
    rw [rd_sym l i hi] at this
    simpa using this
  · intro h i hi
    have hil := List.mem_range.1 hi
    unfold longName
    rw [rd_sym l i hil]
    have := h l[i] (List.getElem_mem hil)
    simpa using this
theorem check_ordered {l : List S58} {secs : List ByteArray} (h : symCheck l secs = 0) : symCheck (ordered l) secs = 0 := by
  obtain ⟨h1, h2, h3, h4⟩ := check_ok h
  have hp := ordered_perm l
  have hol := ordered_length l
  have h4' : ∀ x ∈ ordered l, rightOf x secs = true := fun x hx => h4 x (ordered_mem hx)
  have h3' : ∀ x ∈ ordered l, x.f0.size ≤ 255 := fun x hx => h3 x (ordered_mem hx)
  unfold symCheck at h ⊢
  rw [if_neg (by omega)] at h
  rw [if_neg (by omega)]
  have hl := (long_iff l).2 h3
  have hl' := (long_iff (ordered l)).2 h3'
  rw [hl, Bool.false_or] at h
  rw [hl', Bool.false_or]
  split at h
  · cases h
  rename_i c1
  rw [if_neg c1]
  split at h
  · cases h
  rename_i c2
  rw [if_neg c2]
  split at h
  · cases h
  rename_i c3
  have hpw := (pair_iff l secs h4).1 (Bool.eq_false_iff.2 c3)
  have hpw' := (hp.pairwise_iff (fun {x y} hxy hc => hxy (clash_symm hc))).2 hpw
  have := (pair_iff (ordered l) secs h4').2 hpw'
  rw [this]
  rfl
theorem locals_ordered (l : List S58) : locals (ordered l) = locals l := by
  unfold ordered locals globals
  rw [List.filter_append, List.filter_filter, List.filter_filter]
  simp
theorem globals_ordered (l : List S58) : globals (ordered l) = globals l := by
  unfold ordered locals globals
  rw [List.filter_append, List.filter_filter, List.filter_filter]
  simp
theorem ordered_ordered (l : List S58) : ordered (ordered l) = ordered l := by
  show locals (ordered l) ++ globals (ordered l) = _
  rw [locals_ordered, globals_ordered]
  rfl
theorem write_ordered {l : List S58} {secs : List ByteArray} (h : symCheck l secs = 0) : writeF (ordered l) secs = writeF l secs := by
  unfold writeF
  rw [check_ordered h, h, ordered_ordered, ordered_length, locals_ordered]
/-- What was written is read. -/
theorem read_back {l : List S58} {secs : List ByteArray} {B strs : List Int} {n : Int} (h : writeF l secs = some (B, strs, n, 0)) (hc : symCheck l secs = 0) : readF B strs n secs = some (ordered l, 0) ∧ B.length = 24 * (l.length + 1) ∧ n = 1 + ((locals l).length : Int) ∧ strs.length ≤ 1048576 := by
  have hw := write_ordered hc
  rw [h] at hw
  obtain ⟨h1, h2, h3, h4⟩ := check_ok hc
  have hol := ordered_length l
  have hnl : (namesOf (ordered l)).length = l.length := by unfold namesOf; rw [List.length_map, hol]
  have hsz : ∀ s ∈ namesOf (ordered l), s.size ≤ 255 := by
    intro s hs
    obtain ⟨x, hx, rfl⟩ := List.mem_map.1 hs
    exact h3 x (ordered_mem hx)
  have hsum := sum_le _ hsz
  rw [hnl] at hsum
  unfold writeF at h
  rw [if_neg (fun h => h hc), if_pos ⟨h1, h2⟩] at h
  rcases strings_table (namesOf (ordered l)) (by omega) (by omega) with hs | hs | ⟨b, a, hs, ht⟩
  · rw [hs] at h
    have h' : (if (80 : Int) ≠ 0 then some (([] : List Int), ([] : List Int), (0 : Int), (80 : Int)) else if ([] : List Int).length = l.length then some (List.replicate 24 0 ++ symsOf secs (ordered l) [], [], 1 + ((locals l).length : Int), 0) else none) = some (B, strs, n, 0) := h
    rw [if_pos (by decide)] at h'
    simp at h'
  · rw [hs] at h
    have h' : (if (6 : Int) ≠ 0 then some (([] : List Int), ([] : List Int), (0 : Int), (6 : Int)) else if ([] : List Int).length = l.length then some (List.replicate 24 0 ++ symsOf secs (ordered l) [], [], 1 + ((locals l).length : Int), 0) else none) = some (B, strs, n, 0) := h
    rw [if_pos (by decide)] at h'
    simp at h'
  · rw [hs] at h
    have hal : a.length = l.length := by rw [ht.len, hnl]
    have h' : (if (0 : Int) ≠ 0 then some (([] : List Int), ([] : List Int), (0 : Int), (0 : Int)) else if a.length = l.length then some (List.replicate 24 0 ++ symsOf secs (ordered l) a, b, 1 + ((locals l).length : Int), 0) else none) = some (B, strs, n, 0) := h
    rw [if_neg (by decide), if_pos hal] at h'
    simp only [Option.some.injEq, Prod.mk.injEq] at h'
    obtain ⟨rfl, rfl, rfl, -⟩ := h'
    have hlen : (List.replicate 24 (0 : Int) ++ symsOf secs (ordered l) a).length = 24 * (l.length + 1) := by
      rw [List.length_append, List.length_replicate, symsOf_length secs (ordered l) a (by omega), hol]
      omega
    refine ⟨?_, hlen, rfl, ht.small⟩
    unfold readF
    rw [if_pos ⟨by omega, ht.small, by omega, by omega⟩]
    have hb : ∀ x ∈ List.replicate 24 (0 : Int) ++ symsOf secs (ordered l) a, 0 ≤ x ∧ x ≤ 255 := by
      intro x hx
      rcases List.mem_append.1 hx with hx | hx
      · rw [List.mem_replicate] at hx; omega
      · exact symsOf_range secs _ _ x hx
    have hall : ∀ i (h : i < (ordered l).length), symR (List.replicate 24 (0 : Int) ++ symsOf secs (ordered l) a) b secs (24 * ((i : Int) + 1)) = some (ordered l)[i] := by
      intro i hi
      have hia : i < a.length := by omega
      have hsp := symsOf_split secs (ordered l) a i (by omega)
      have hd : symsOf secs ((ordered l).drop i) (a.drop i) = entryB secs (ordered l)[i] a[i] ++ symsOf secs ((ordered l).drop (i + 1)) (a.drop (i + 1)) := by
        rw [List.drop_eq_getElem_cons hi, List.drop_eq_getElem_cons hia]
        rfl
      rw [hd] at hsp
      have hf := ht.found i hia (by omega)
      have hnm : (namesOf (ordered l))[i]'(by omega) = (ordered l)[i].f0 := by simp [namesOf]
      rw [hnm] at hf
      refine entry_read secs h2 (ordered l)[i] (h4 _ (ordered_mem (List.getElem_mem hi))) b ht.small a[i] hf (List.replicate 24 0 ++ symsOf secs ((ordered l).take i) (a.take i)) (symsOf secs ((ordered l).drop (i + 1)) (a.drop (i + 1))) _ (by rw [hsp]; simp only [List.append_assoc]) hb (by omega) _ ?_
      rw [List.length_append, List.length_replicate, symsOf_length secs _ _ (by rw [List.length_take, List.length_take]; omega), List.length_take]
      omega
    have hsy := symsR_of _ b secs (ordered l) hall (ordered l).length 0 (by omega)
    rw [show (List.replicate 24 (0 : Int) ++ symsOf secs (ordered l) a).length / 24 - 1 = (ordered l).length from by omega, hsy, Option.bind_some, List.drop_zero, if_pos hw]
end Go.Proofs.Ytejdnanhnkjaoaa.SymB
