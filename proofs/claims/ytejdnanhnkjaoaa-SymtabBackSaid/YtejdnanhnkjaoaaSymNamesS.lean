/- Names as a table, in plain lists: what Strings, At and their references answer. -/
import Derived.Test.YtejdnanhnkjaoaaBits
import Derived.Test.YtejdnanhnkjaoaaGf12
import Derived.Test.YtejdnanhnkjaoaaGfM
namespace Go.Proofs.Ytejdnanhnkjaoaa.Sym
set_option linter.unusedVariables false
set_option linter.unusedSimpArgs false
open Go.RowKit Go.Proofs.Ytejdnanhnkjaoaa.G Go.Proofs.YtejdnanhnkjaoaaW.PrintWords Go.Proofs.YtejdnanhnkjaoaaW.PrintLast Go.Proofs.YtejdnanhnkjaoaaW.PrintMore Go.Proofs.Ytejdnanhnkjaoaa.Bit

theorem rounds_to {α : Type} {g : Nat → Option α} (hg : ∀ k, LeO (g k) (g (k + 1))) {k k' : Nat} (hk : k ≤ k') {r : α} (h : g k = some r) : g k' = some r := by
  induction hk with
  | refl => exact h
  | step _ ih => exact hg _ _ ih
/-- the first byte 0, counted from here -/
def zeroAt : List Int → Option Nat
  | [] => none
  | x :: xs => if x = 0 then some 0 else (zeroAt xs).map (· + 1)
theorem zeroAt_lt (l : List Int) : ∀ n, zeroAt l = some n → n < l.length := by
  induction l with
  | nil => intro n h; simp [zeroAt] at h
  | cons x xs ih =>
    intro n h
    simp only [zeroAt] at h
    split at h
    · cases h; simp
    · cases hz : zeroAt xs with
      | none => rw [hz] at h; simp at h
      | some m =>
        rw [hz] at h
        simp at h
        have := ih m hz
        simp
        omega
theorem zeroAt_app (s : List UInt8) (hz : (0 : UInt8) ∉ s) (t : List Int) : zeroAt (s.map (fun b => (b.toNat : Int)) ++ 0 :: t) = some s.length := by
  induction s with
  | nil => rfl
  | cons x xs ih =>
    simp only [List.mem_cons, not_or] at hz
    have hx : ¬ (x.toNat : Int) = 0 := by
      intro e
      apply hz.1
      have : x.toNat = 0 := by omega
      exact (UInt8.toNat_inj.mp (by simpa using this)).symm
    simp only [List.map_cons, List.cons_append, zeroAt]
    rw [if_neg hx, ih hz.2]
    rfl
theorem indexByte_zero (s : List UInt8) : 0 ≤ Lib.indexByte s 0 ↔ (0 : UInt8) ∈ s := by
  have hlow : ∀ s : List UInt8, -1 ≤ Lib.indexByte s 0 := by
    intro s
    induction s with
    | nil => simp [Lib.indexByte]
    | cons x xs ih =>
      simp only [Lib.indexByte]
      split
      · omega
      · split
        · omega
        · omega
  induction s with
  | nil => simp [Lib.indexByte]
  | cons x xs ih =>
    simp only [Lib.indexByte, List.mem_cons]
    by_cases c : x = 0
    · subst c
      simp
    · have hne : (x == 0) = false := by simpa using c
      rw [hne, if_neg (by decide)]
      have hne2 : ¬ (0 : UInt8) = x := fun e => c e.symm
      simp only [hne2, false_or, ← ih]
      have := hlow xs
      by_cases c2 : Lib.indexByte xs 0 = -1
      · rw [c2]
        simp
      · have hb : (Lib.indexByte xs 0 == -1) = false := by simpa using c2
        rw [hb, if_neg (by decide)]
        omega
theorem symZero_iff (l : List ByteArray) : symZero l = true ↔ ∃ s ∈ l, (0 : UInt8) ∈ s.data.toList := by
  induction l with
  | nil => simp [symZero]
  | cons s r ih =>
    simp only [symZero, List.mem_cons, exists_eq_or_imp, ← ih]
    by_cases c : 0 ≤ Lib.indexByte s.data.toList 0
    · rw [if_pos c]
      exact ⟨fun _ => .inl ((indexByte_zero _).1 c), fun _ => rfl⟩
    · rw [if_neg c]
      exact ⟨fun h => .inr h, fun h => h.resolve_left (fun h2 => c ((indexByte_zero _).2 h2))⟩
/-- what At answers -/
def atOf (l : List Int) (a : Int) : ByteArray × Int :=
  if a < 0 ∨ (l.length : Int) ≤ a then (⟨#[]⟩, 11) else
  match zeroAt (l.drop a.toNat) with
  | none => (⟨#[]⟩, 20)
  | some n => if n > 255 then (⟨#[]⟩, 6) else (strOfNums ((l.take (a.toNat + n)).drop a.toNat), 0)
theorem toList_data (s : ByteArray) : s.toList = s.data.toList := ByteArray.toList_eq s
theorem same_iff (s t : ByteArray) : s.toList = t.toList ↔ s.data.toList = t.data.toList := by rw [toList_data, toList_data]
theorem eq_of_data {s t : ByteArray} (h : s.data.toList = t.data.toList) : s = t := ByteArray.ext (Array.toList_inj.mp h)
theorem strOf_bytesOf (s : ByteArray) : strOfNums (bytesOf s) = s := by
  apply eq_of_data
  simp [strOfNums, bytesOf, List.map_map, Function.comp_def]
/-- is the name at place i new, and not empty? -/
def fresh (l : List ByteArray) (i : Nat) : Bool := (l.getD i ByteArray.empty).toList != [] && !((l.take i).any fun x => x.toList == (l.getD i ByteArray.empty).toList)
/-- the table's size behind the first i names -/
def sizeUp (l : List ByteArray) : Nat → Nat
  | 0 => 1
  | i + 1 => sizeUp l i + if fresh l i then (l.getD i ByteArray.empty).size + 1 else 0
/-- what is kept while the table is built -/
structure Inv (l : List ByteArray) (n : Nat) (m : List (List UInt8 × Int)) (b at_ : List Int) : Prop where
  len : at_.length = n
  old : ∀ i (h : i < at_.length) (h2 : i < l.length), Own.look m l[i].data.toList = some at_[i]
  ent : ∀ s c, Own.look m s = some c → ∃ j : Nat, c = j ∧ j + s.length < b.length ∧ (b.drop j).take (s.length + 1) = s.map (fun x => (x.toNat : Int)) ++ [0] ∧ (0 : UInt8) ∉ s ∧ s.length ≤ 255
  size : b.length = sizeUp l n
  met : ∀ s, s ≠ [] → ((Own.look m s).isSome ↔ ∃ x ∈ l.take n, x.data.toList = s)
theorem fresh_iff (l : List ByteArray) (i : Nat) (hi : i < l.length) : fresh l i = true ↔ l[i].data.toList ≠ [] ∧ ¬ ∃ x ∈ l.take i, x.data.toList = l[i].data.toList := by
  unfold fresh
  simp [List.getD, hi, toList_data, List.any_eq_false]
theorem inv_zero (l : List ByteArray) : Inv l 0 [([], 0)] [0] [] where
  len := rfl
  old := fun i h => by simp at h
  ent := fun s c h => by
    rw [Own.look_cons] at h
    split at h
    · rename_i e
      cases h
      subst e
      exact ⟨0, rfl, by simp, by simp, by simp, by simp⟩
    · simp [Own.look] at h
  size := rfl
  met := fun s hs => by
    rw [Own.look_cons, if_neg (fun e => hs e.symm)]
    simp [Own.look]
theorem inv_old (l : List ByteArray) (n : Nat) (m : List (List UInt8 × Int)) (b at_ : List Int) (hn : n < l.length) (h : Inv l n m b at_) (c : Int) (hc : Own.look m l[n].data.toList = some c) : Inv l (n + 1) m b (at_ ++ [c]) where
  len := by rw [List.length_append, h.len]; rfl
  old := fun i hi h2 => by
    have hl := h.len
    rw [List.length_append, List.length_singleton] at hi
    rw [List.getElem_append]
    split
    · exact h.old i _ h2
    · obtain rfl : i = n := by omega
      simp [hl, hc]
  ent := h.ent
  size := by
    have : fresh l n = false := by
      rw [Bool.eq_false_iff]
      intro hf
      rw [fresh_iff l n hn] at hf
      have := (h.met _ hf.1).1 (by rw [hc]; rfl)
      exact hf.2 this
    rw [h.size]
    simp [sizeUp, this]
  met := fun s hs => by
    rw [h.met s hs, List.take_succ_eq_append_getElem hn]
    simp only [List.mem_append, List.mem_singleton]
    refine ⟨fun ⟨x, h1, h2⟩ => ⟨x, .inl h1, h2⟩, fun ⟨x, h1, h2⟩ => ?_⟩
    rcases h1 with h1 | rfl
    · exact ⟨x, h1, h2⟩
    · subst h2
      exact (h.met _ hs).1 (by rw [hc]; rfl)
theorem inv_new (l : List ByteArray) (n : Nat) (m : List (List UInt8 × Int)) (b at_ : List Int) (hn : n < l.length) (h : Inv l n m b at_) (hc : Own.look m l[n].data.toList = none) (h255 : l[n].size ≤ 255) (hz : (0 : UInt8) ∉ l[n].data.toList) (h0 : (Own.look m []).isSome) :
    Inv l (n + 1) ((l[n].data.toList, (b.length : Int)) :: m) (b ++ bytesOf l[n] ++ [0]) (at_ ++ [(b.length : Int)]) where
  len := by rw [List.length_append, h.len]; rfl
  old := fun i hi h2 => by
    have hl := h.len
    rw [List.length_append, List.length_singleton] at hi
    rw [Own.look_cons]
    by_cases hin : i < at_.length
    · have e := h.old i hin h2
      rw [if_neg (fun e2 => by rw [← e2, hc] at e; cases e), List.getElem_append_left hin]
      exact e
    · obtain rfl : i = n := by omega
      rw [if_pos rfl]
      simp [hl]
  ent := fun s c hs => by
    rw [Own.look_cons] at hs
    split at hs
    · rename_i e
      cases hs
      subst e
      refine ⟨b.length, rfl, by rw [List.length_append, List.length_append, bytesOf_length, data_length]; simp, ?_, hz, by rw [data_length]; exact h255⟩
      rw [List.append_assoc, List.drop_left, List.take_of_length_le (by rw [List.length_append, bytesOf_length, data_length]; simp)]
      rfl
    · obtain ⟨j, h1, h2, h3, h4⟩ := h.ent s c hs
      refine ⟨j, h1, by rw [List.length_append, List.length_append]; omega, ?_, h4⟩
      rw [List.append_assoc, List.drop_append_of_le_length (by omega), List.take_append_of_le_length (by rw [List.length_drop]; omega)]
      exact h3
  size := by
    have : fresh l n = true := by
      rw [fresh_iff l n hn]
      have hne : l[n].data.toList ≠ [] := fun e => by rw [e] at hc; rw [hc] at h0; cases h0
      refine ⟨hne, fun hx => ?_⟩
      have := (h.met _ hne).2 hx
      rw [hc] at this
      cases this
    rw [List.length_append, List.length_append, bytesOf_length, h.size]
    simp [sizeUp, this, List.getD, hn]
    omega
  met := fun s hs => by
    rw [Own.look_cons, List.take_succ_eq_append_getElem hn]
    simp only [List.mem_append, List.mem_singleton]
    split
    · rename_i e
      simp only [Option.isSome_some, true_iff]
      exact ⟨l[n], .inr rfl, e⟩
    · rename_i e
      rw [h.met s hs]
      refine ⟨fun ⟨x, h1, h2⟩ => ⟨x, .inl h1, h2⟩, fun ⟨x, h1, h2⟩ => ?_⟩
      rcases h1 with h1 | rfl
      · exact ⟨x, h1, h2⟩
      · exact absurd h2 e
/-- what a table that was built is -/
structure Table (l : List ByteArray) (b at_ : List Int) : Prop where
  len : at_.length = l.length
  small : b.length ≤ 1048576
  size : b.length = sizeUp l l.length
  found : ∀ i (h : i < at_.length) (h2 : i < l.length), atOf b at_[i] = (l[i], 0)
  same : ∀ i j (h1 : i < at_.length) (h2 : j < at_.length) (h3 : i < l.length) (h4 : j < l.length), l[i].data.toList = l[j].data.toList → at_[i] = at_[j]
theorem table_of_inv (l : List ByteArray) (m : List (List UInt8 × Int)) (b at_ : List Int) (h : Inv l l.length m b at_) (hb : b.length ≤ 1048576) : Table l b at_ where
  len := h.len
  small := hb
  size := h.size
  found := fun i h1 h2 => by
    obtain ⟨j, e1, e2, e3, e4, e5⟩ := h.ent _ _ (h.old i h1 h2)
    have hz : zeroAt (b.drop j) = some l[i].data.toList.length := by
      have e6 : b.drop j = (l[i].data.toList.map (fun x => (x.toNat : Int))) ++ 0 :: (b.drop (j + (l[i].data.toList.length + 1))) := by
        rw [← List.take_append_drop (l[i].data.toList.length + 1) (b.drop j), e3, List.drop_drop]
        simp
      rw [e6]
      exact zeroAt_app _ e4 _
    unfold atOf
    rw [e1, if_neg (by omega), Int.toNat_natCast, hz]
    simp only
    rw [if_neg (by omega)]
    have e7 : (b.take (j + l[i].data.toList.length)).drop j = bytesOf l[i] := by
      have := congrArg (List.take l[i].data.toList.length) e3
      rw [List.take_take, Nat.min_eq_left (by omega), List.take_left' (by simp)] at this
      rw [List.take_drop] at this
      exact this
    rw [e7, strOf_bytesOf]
  same := fun i j h1 h2 h3 h4 e => by
    have e1 := h.old i h1 h3
    have e2 := h.old j h2 h4
    rw [e, e2] at e1
    exact (Option.some.inj e1).symm
theorem look_nil_kept (m : List (List UInt8 × Int)) (s : List UInt8) (c : Int) (h : (Own.look m []).isSome) : (Own.look ((s, c) :: m) []).isSome := by
  rw [Own.look_cons]
  split
  · rfl
  · exact h
theorem symStrs_table (l : List ByteArray) (hz : symZero l = false) (d : Nat) : ∀ n m b at_, n + d = l.length → Inv l n m b at_ → (Own.look m []).isSome →
    symStrs (l.drop n) m b at_ = ([], [], 6) ∨ ∃ b' a', symStrs (l.drop n) m b at_ = (b', a', 0) ∧ Table l b' a' := by
  induction d with
  | zero =>
    intro n m b at_ hn h h0
    obtain rfl : n = l.length := by omega
    rw [List.drop_length]
    simp only [symStrs]
    split
    · exact .inl rfl
    · exact .inr ⟨_, _, rfl, table_of_inv l m b at_ h (by omega)⟩
  | succ d ih =>
    intro n m b at_ hn h h0
    have hlt : n < l.length := by omega
    rw [List.drop_eq_getElem_cons hlt]
    simp only [symStrs]
    split
    · exact .inl rfl
    · split
      · exact ih _ _ _ _ (by omega) (inv_old l n m b at_ hlt h _ ‹_›) h0
      · refine ih _ _ _ _ (by omega) (inv_new l n m b at_ hlt h ‹_› (by omega) (fun hx => ?_) h0) (look_nil_kept _ _ _ h0)
        have := (symZero_iff l).2 ⟨l[n], List.getElem_mem _, hx⟩
        rw [hz] at this
        cases this
theorem strings_table (l : List ByteArray) (hl : l.length ≤ 1099511627776) (hs : (l.map ByteArray.size).sum ≤ 1099511627776) :
    symtab_Strings.f l = some ([], [], 80) ∨ symtab_Strings.f l = some ([], [], 6) ∨ ∃ b a, symtab_Strings.f l = some (b, a, 0) ∧ Table l b a := by
  unfold symtab_Strings.f
  rw [if_pos ⟨hl, hs⟩]
  cases hz : symZero l with
  | true => exact .inl rfl
  | false =>
    rw [if_neg (by decide)]
    rcases symStrs_table l hz l.length 0 _ _ _ (by omega) (inv_zero l) (by rfl) with h | ⟨b, a, h, ht⟩
    · exact .inr (.inl (congrArg some h))
    · exact .inr (.inr ⟨b, a, congrArg some h, ht⟩)
end Go.Proofs.Ytejdnanhnkjaoaa.Sym
