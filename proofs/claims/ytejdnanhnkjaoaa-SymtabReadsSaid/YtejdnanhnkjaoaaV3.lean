/- Lemmas and contracts, one text behind the other: what the row of this claim needs; no conditions beyond those that each theorem names. -/
import Derived.Test.YtejdnanhnkjaoaaV2
section
namespace Go.Proofs.Ytejdnanhnkjaoaa.Sym
set_option linter.unusedVariables false
set_option linter.unusedSimpArgs false
open Go.RowKit Go.Proofs.Ytejdnanhnkjaoaa.G Go.Proofs.YtejdnanhnkjaoaaW.PrintWords Go.Proofs.YtejdnanhnkjaoaaW.PrintLast Go.Proofs.YtejdnanhnkjaoaaW.PrintMore Go.Proofs.Ytejdnanhnkjaoaa.Bit
theorem rdOf_get (l : List ByteArray) (i : Nat) (h : i < l.length) : rdOf ByteArray.empty l (i : Int) = l[i] := by simp [rdOf, List.getD, h]
theorem rd_get (l : List Int) (i : Nat) (h : i < l.length) : rd l (i : Int) = l[i] := by simp [rd, List.getD, h]
/-- the place of a name among names -/
def pos (names : List ByteArray) (s : List UInt8) : Nat := names.findIdx fun x => x.data.toList == s
theorem among_pos (l : List ByteArray) (s : ByteArray) : among l s = decide (pos l s.data.toList < l.length) := by
  unfold among pos
  induction l with
  | nil => simp
  | cons x l ih =>
    rw [List.any_cons, ih, List.findIdx_cons]
    cases h : (x.data.toList == s.data.toList)
    · simp
    · simp
theorem pos_le (l : List ByteArray) (s : List UInt8) : pos l s ≤ l.length := List.findIdx_le_length
theorem rd_sym (l : List S58) (i : Nat) (h : i < l.length) : rd_T58 l (i : Int) = l[i] := by simp [rd_T58, List.getD, h]
end Go.Proofs.Ytejdnanhnkjaoaa.Sym
namespace Go.Proofs.Ytejdnanhnkjaoaa.SymW
set_option linter.unusedVariables false
set_option linter.unusedSimpArgs false
open Go.RowKit Go.Proofs.Ytejdnanhnkjaoaa.G Go.Proofs.YtejdnanhnkjaoaaW.PrintWords Go.Proofs.YtejdnanhnkjaoaaW.PrintLast Go.Proofs.YtejdnanhnkjaoaaW.PrintMore Go.Proofs.Ytejdnanhnkjaoaa.Bit Go.Proofs.Ytejdnanhnkjaoaa.Sym
theorem idxL_pos (l : List ByteArray) (s : ByteArray) : ∀ i : Int, idxL l s i = if pos l s.data.toList < l.length then i + pos l s.data.toList else -1 := by
  induction l with
  | nil => intro i; simp [idxL, pos]
  | cons x l ih =>
    intro i
    simp only [idxL]
    unfold pos at *
    rw [List.findIdx_cons]
    by_cases h : s.toList = x.toList
    · have h2 : (x.data.toList == s.data.toList) = true := beq_iff_eq.2 ((same_iff _ _).1 h).symm
      rw [if_pos h, h2]
      simp
    · have h2 : (x.data.toList == s.data.toList) = false := beq_eq_false_iff_ne.2 (fun e => h ((same_iff _ _).2 e.symm))
      rw [if_neg h, h2, ih]
      simp only [cond_false, List.length_cons]
      by_cases c : l.findIdx (fun x => x.data.toList == s.data.toList) < l.length
      · rw [if_pos c, if_pos (by omega)]; omega
      · rw [if_neg c, if_neg (by omega)]
theorem locals_le (l : List S58) : (locals l).length ≤ l.length := List.length_filter_le _ _
theorem ordered_mem {l : List S58} {x : S58} (h : x ∈ ordered l) : x ∈ l := by
  unfold ordered locals globals at h
  rcases List.mem_append.1 h with h | h <;> exact (List.mem_filter.1 h).1
/-- What a list that may be is. -/
theorem check_ok {l : List S58} {secs : List ByteArray} (h : symCheck l secs = 0) : l.length ≤ 2000 ∧ secs.length ≤ 64 ∧ (∀ x ∈ l, x.f0.size ≤ 255) ∧ (∀ x ∈ l, rightOf x secs = true) := by
  unfold symCheck at h
  split at h
  · cases h
  rename_i h1
  split at h
  · cases h
  rename_i h2
  split at h
  · cases h
  split at h
  · cases h
  rename_i h4
  rw [Bool.or_eq_true, not_or] at h2
  refine ⟨by omega, by omega, fun x hx => ?_, fun x hx => ?_⟩
  · obtain ⟨i, hi, rfl⟩ := List.mem_iff_getElem.1 hx
    have := List.any_eq_false.1 (Bool.eq_false_iff.2 h2.1) i (List.mem_range.2 hi)
    unfold longName at this
    rw [rd_sym l i hi] at this
    simp at this
    exact this
  · obtain ⟨i, hi, rfl⟩ := List.mem_iff_getElem.1 hx
    have := List.any_eq_false.1 (Bool.eq_false_iff.2 h4) i (List.mem_range.2 hi)
    unfold symBad at this
    rw [rd_sym l i hi] at this
    simp only [Bool.or_eq_true, not_or, Bool.not_eq_true', Bool.not_eq_false] at this
    exact this.1
theorem sum_le (l : List ByteArray) (h : ∀ s ∈ l, s.size ≤ 255) : (l.map ByteArray.size).sum ≤ 255 * l.length := by
  induction l with
  | nil => simp
  | cons x l ih =>
    have h1 := h x (by simp)
    have h2 := ih (fun s hs => h s (by simp [hs]))
    simp only [List.map_cons, List.sum_cons, List.length_cons]
    omega
/-- What Write answers, it answers always. -/
theorem write_some (l : List S58) (secs : List ByteArray) : ∃ r, writeF l secs = some r := by
  by_cases hc : symCheck l secs = 0
  · obtain ⟨h1, h2, h3, h4⟩ := check_ok hc
    have hol := ordered_length l
    have hnl : (namesOf (ordered l)).length = l.length := by unfold namesOf; rw [List.length_map, hol]
    have hsz : ∀ s ∈ namesOf (ordered l), s.size ≤ 255 := by
      intro s hs
      obtain ⟨x, hx, rfl⟩ := List.mem_map.1 hs
      exact h3 x (ordered_mem hx)
    have hsum := sum_le _ hsz
    rw [hnl] at hsum
    unfold writeF
    rw [if_neg (fun h => h hc), if_pos ⟨h1, h2⟩]
    rcases strings_table (namesOf (ordered l)) (by omega) (by omega) with h | h | ⟨b, a, h, ht⟩
    · rw [h]; exact ⟨_, if_pos (by decide)⟩
    · rw [h]; exact ⟨_, if_pos (by decide)⟩
    · have hal : a.length = l.length := by rw [ht.len, hnl]
      rw [h]
      refine ⟨(List.replicate 24 0 ++ symsOf secs (ordered l) a, b, 1 + ((locals l).length : Int), 0), ?_⟩
      show (if (0 : Int) ≠ 0 then _ else _) = _
      rw [if_neg (by decide), if_pos hal]
  · exact ⟨_, by unfold writeF; rw [if_pos hc]⟩
end Go.Proofs.Ytejdnanhnkjaoaa.SymW
end
section
namespace Go.Proofs.Ytejdnanhnkjaoaa.SymR
set_option linter.unusedVariables false
set_option linter.unusedSimpArgs false
open Go.RowKit Go.Proofs.Ytejdnanhnkjaoaa.G Go.Proofs.YtejdnanhnkjaoaaW.PrintWords Go.Proofs.YtejdnanhnkjaoaaW.PrintLast Go.Proofs.YtejdnanhnkjaoaaW.PrintMore
open Go.Proofs.Ytejdnanhnkjaoaa.Bit Go.Proofs.Ytejdnanhnkjaoaa.Sym
theorem read_gives_up (w W : World) (T : Array Value) (pl : Nat) (v x : Value) (hpl : pl = w.heap.size) (h8 : T.getD 8 undef = .pointer (some ⟨pl, 0, none⟩)) (h9 : T.getD 9 undef = .pointer (some ⟨pl + 1, 0, none⟩)) (hp : W.heap[pl]? = some (.cells #[v] 43 (0, 0))) (hq : W.heap[pl + 1]? = some (.cells #[x] 29 (0, 0))) (hB : Below pl w W) :
    bodyPostD Try.prog Try.f26 (fun e w' => ∃ v0_ : Value, e = .returned (.tuple #[v0_, .int .i64 80]) ∧ Kd.R k58 58 w' w.heap.size (fun _ => True) v0_ [] ∧ Below w.heap.size w w') (.panic gaveUp) { tmps := T, defers := [{ target := .fn (.func 42) #[.pointer (some ⟨pl, 0, none⟩), .pointer (some ⟨pl + 1, 0, none⟩)], args := #[] }] } W := by
  show Leaves _ _ _ _ _ _ _
  refine leaves_cons (f := 42) (args := #[.pointer (some ⟨pl, 0, none⟩), .pointer (some ⟨pl + 1, 0, none⟩)]) (by simp) (by simp [go_sem]) ?_
  refine (read_catch pl (pl + 1) (by omega) v x W hp hq).mono ?_
  rintro e u' w6 ⟨rfl, rfl, hb, e1, e2⟩
  have hm : min pl (pl + 1) = pl := by omega
  rw [hm] at hb
  have hb5 := hB.trans hb
  rw [← hpl]
  exact ⟨.tuple #[.slice none 0 0, .int .i64 80], results2c (p := 8) (q := 9) rfl _ _ _ ⟨pl, 0, none⟩ ⟨pl + 1, 0, none⟩ (.slice none 0 0) (.int .i64 80) h8 h9 Try.underlying43 Try.underlying29 ((blk_cell e1 0).trans rfl) ((blk_cell e2 0).trans rfl), .slice none 0 0, rfl, Kd.R_nil _ _ _ _ _, hb5⟩
set_option maxHeartbeats 2000000 in
set_option maxRecDepth 100000 in
theorem read_long (A0 : Option Addr) (c0 : Nat) (l0 : List Int) (A1 : Option Addr) (c1 : Nat) (l1 : List Int) (a2 : Int) (A3 : Option Addr) (c3 : Nat) (l3 : List ByteArray) (w : World) (h : l0.length > 1048576 ∨ l1.length > 1048576) :
    Calls Try.prog 26 #[.slice A0 l0.length c0, .slice A1 l1.length c1, .int .i64 a2, .slice A3 l3.length c3] w fun e w' => ∃ v0_ : Value, e = .returned (.tuple #[v0_, .int .i64 6]) ∧ Kd.R k58 58 w' w.heap.size (fun _ => True) v0_ [] ∧ Below w.heap.size w w' := by
  by_cases c : l0.length > 1048576
  · have d0 : decide ((l0.length : Int) > 1048576) = true := decide_eq_true (by omega)
    have d1 : decide (1048576 < l0.length) = true := decide_eq_true (by omega)
    clear h c
    go_enter_defers Try.func26, Try.ntmps26
    go_wp2
    have e2 : ((w.alloc (.cells #[.slice none 0 0] 43)).alloc (.cells #[.int .i64 6] 29)).heap[w.heap.size + 1]? = some (.cells #[.int .i64 6] 29 (0, 0)) := by
      have := blk_new (w.alloc (.cells #[.slice none 0 0] 43)) (.cells #[.int .i64 6] 29)
      rw [World.size_alloc] at this
      exact this
    exact ⟨.tuple #[.slice none 0 0, .int .i64 6], results2c (p := 8) (q := 9) rfl _ _ _ ⟨w.heap.size, 0, none⟩ ⟨w.heap.size + 1, 0, none⟩ (.slice none 0 0) (.int .i64 6) rfl rfl Try.underlying43 Try.underlying29 ((blk_cell (blk_alloc (blk_new w _) _) 0).trans rfl) ((blk_cell e2 0).trans rfl), .slice none 0 0, rfl, Kd.R_nil _ _ _ _ _, below_alloc (below_alloc (Below.refl _ _) _) _⟩
  · have d0 : decide ((l0.length : Int) > 1048576) = false := decide_eq_false (by omega)
    have d1 : decide (1048576 < l0.length) = false := decide_eq_false (by omega)
    have d2 : decide ((l1.length : Int) > 1048576) = true := decide_eq_true (by omega)
    have d3 : decide (1048576 < l1.length) = true := decide_eq_true (by omega)
    clear h c
    go_enter_defers Try.func26, Try.ntmps26
    go_wp2
    have e2 : ((w.alloc (.cells #[.slice none 0 0] 43)).alloc (.cells #[.int .i64 6] 29)).heap[w.heap.size + 1]? = some (.cells #[.int .i64 6] 29 (0, 0)) := by
      have := blk_new (w.alloc (.cells #[.slice none 0 0] 43)) (.cells #[.int .i64 6] 29)
      rw [World.size_alloc] at this
      exact this
    exact ⟨.tuple #[.slice none 0 0, .int .i64 6], results2c (p := 8) (q := 9) rfl _ _ _ ⟨w.heap.size, 0, none⟩ ⟨w.heap.size + 1, 0, none⟩ (.slice none 0 0) (.int .i64 6) rfl rfl Try.underlying43 Try.underlying29 ((blk_cell (blk_alloc (blk_new w _) _) 0).trans rfl) ((blk_cell e2 0).trans rfl), .slice none 0 0, rfl, Kd.R_nil _ _ _ _ _, below_alloc (below_alloc (Below.refl _ _) _) _⟩
set_option maxHeartbeats 2000000 in
set_option maxRecDepth 100000 in
theorem read_shape (A0 : Option Addr) (c0 : Nat) (l0 : List Int) (A1 : Option Addr) (c1 : Nat) (l1 : List Int) (a2 : Int) (A3 : Option Addr) (c3 : Nat) (l3 : List ByteArray) (w : World) (h0 : l0.length ≤ 1048576) (h1 : l1.length ≤ 1048576) (h : l0.length % 24 ≠ 0 ∨ l0.length < 24) :
    Calls Try.prog 26 #[.slice A0 l0.length c0, .slice A1 l1.length c1, .int .i64 a2, .slice A3 l3.length c3] w fun e w' => ∃ v0_ : Value, e = .returned (.tuple #[v0_, .int .i64 80]) ∧ Kd.R k58 58 w' w.heap.size (fun _ => True) v0_ [] ∧ Below w.heap.size w w' := by
  have d0 : decide ((l0.length : Int) > 1048576) = false := decide_eq_false (by omega)
  have d1 : decide (1048576 < l0.length) = false := decide_eq_false (by omega)
  have d2 : decide ((l1.length : Int) > 1048576) = false := decide_eq_false (by omega)
  have d3 : decide (1048576 < l1.length) = false := decide_eq_false (by omega)
  by_cases c : l0.length % 24 = 0
  · have m0 : Int.tmod (l0.length : Int) 24 = 0 := by rw [Int.tmod_eq_emod_of_nonneg (by omega)]; omega
    have d4 : decide ((l0.length : Int) < 24) = true := decide_eq_true (by omega)
    have d5 : decide (l0.length < 24) = true := decide_eq_true (by omega)
    clear h0 h1 h c
    have hmf : ∀ (fn : Fn) (first cap : Array Value) (w : World), (Instr.makeFunc fn first cap).run Try.prog w = .ok (.func fn first cap) w := fun _ _ _ _ => rfl
    go_enter_defers Try.func26, Try.ntmps26
    go_wp2_with fail
    refine (fail_yes _ _).mono ?_
    rintro e w1 ⟨rfl, hw1⟩
    obtain ⟨pl, hpl⟩ : ∃ pl, pl = w.heap.size := ⟨_, rfl⟩
    have hp1 : w1.heap[pl]? = some (.cells #[.slice none 0 0] 43 (0, 0)) := by
      rw [hw1, hpl]; exact blk_alloc (blk_alloc (blk_new w _) _) _
    have hp2 : w1.heap[pl + 1]? = some (.cells #[.int .i64 0] 29 (0, 0)) := by
      rw [hw1, hpl]
      have := blk_new (w.alloc (.cells #[.slice none 0 0] 43)) (.cells #[.int .i64 0] 29)
      rw [World.size_alloc] at this
      exact blk_alloc this _
    have hB1 : Below pl w w1 := by
      rw [hw1, hpl]
      exact below_alloc (below_alloc (below_alloc (Below.refl _ _) _) _) _
    rw [← hpl]
    exact read_gives_up w w1 _ pl _ _ hpl rfl rfl hp1 hp2 hB1
  · have m0 : ((Int.tmod (l0.length : Int) 24) == 0) = false := beq_eq_false_iff_ne.mpr (by rw [Int.tmod_eq_emod_of_nonneg (by omega)]; omega)
    have m1 : ((Int.tmod (l0.length : Int) 24) != 0) = true := bne_iff_ne.mpr (by rw [Int.tmod_eq_emod_of_nonneg (by omega)]; omega)
    have m2 : ¬ ((l0.length : Int) % 24 = 0) := by omega
    clear h0 h1 h c
    have hmf : ∀ (fn : Fn) (first cap : Array Value) (w : World), (Instr.makeFunc fn first cap).run Try.prog w = .ok (.func fn first cap) w := fun _ _ _ _ => rfl
    go_enter_defers Try.func26, Try.ntmps26
    go_wp2_with fail
    refine (fail_yes _ _).mono ?_
    rintro e w1 ⟨rfl, hw1⟩
    obtain ⟨pl, hpl⟩ : ∃ pl, pl = w.heap.size := ⟨_, rfl⟩
    have hp1 : w1.heap[pl]? = some (.cells #[.slice none 0 0] 43 (0, 0)) := by
      rw [hw1, hpl]; exact blk_alloc (blk_alloc (blk_new w _) _) _
    have hp2 : w1.heap[pl + 1]? = some (.cells #[.int .i64 0] 29 (0, 0)) := by
      rw [hw1, hpl]
      have := blk_new (w.alloc (.cells #[.slice none 0 0] 43)) (.cells #[.int .i64 0] 29)
      rw [World.size_alloc] at this
      exact blk_alloc this _
    have hB1 : Below pl w w1 := by
      rw [hw1, hpl]
      exact below_alloc (below_alloc (below_alloc (Below.refl _ _) _) _) _
    rw [← hpl]
    exact read_gives_up w w1 _ pl _ _ hpl rfl rfl hp1 hp2 hB1
end Go.Proofs.Ytejdnanhnkjaoaa.SymR
end
section
namespace Go.Proofs.Ytejdnanhnkjaoaa.SymR
set_option linter.unusedVariables false
set_option linter.unusedSimpArgs false
open Go.RowKit Go.Proofs.Ytejdnanhnkjaoaa.G Go.Proofs.YtejdnanhnkjaoaaW.PrintWords Go.Proofs.YtejdnanhnkjaoaaW.PrintLast Go.Proofs.YtejdnanhnkjaoaaW.PrintMore
open Go.Proofs.Ytejdnanhnkjaoaa.Bit Go.Proofs.Ytejdnanhnkjaoaa.Sym
set_option maxHeartbeats 2000000 in
set_option maxRecDepth 100000 in
theorem read_badC (A0 : Option Addr) (c0 : Nat) (l0 : List Int) (A1 : Option Addr) (c1 : Nat) (l1 : List Int) (a2 : Int) (A3 : Option Addr) (c3 : Nat) (l3 : List ByteArray) (w : World) (hr0 : Kd.C (Kd.int .u8) w A0 l0.length l0) (hc0 : l0.length ≤ c0) (hr1 : Kd.C (Kd.int .u8) w A1 l1.length l1) (hc1 : l1.length ≤ c1) (hr3 : Kd.C Kd.string w A3 l3.length l3) (hc3 : l3.length ≤ c3)
    (xs : List S58) (hl0 : 24 * (xs.length + 2) ≤ l0.length) (hl024 : l0.length % 24 = 0) (hl0m : l0.length ≤ 1048576) (hl1m : l1.length ≤ 1048576) (hx : ∀ i (h : i < xs.length), symR l0 l1 l3 (24 * ((i : Int) + 1)) = some xs[i]) (hbad : symR l0 l1 l3 (24 * ((xs.length : Int) + 1)) = none) (hbr : ∀ b ∈ l0, 0 ≤ b ∧ b ≤ 255) :
    Calls Try.prog 26 #[.slice A0 l0.length c0, .slice A1 l1.length c1, .int .i64 a2, .slice A3 l3.length c3] w fun e w' => ∃ v0_ : Value, e = .returned (.tuple #[v0_, .int .i64 80]) ∧ Kd.R k58 58 w' w.heap.size (fun _ => True) v0_ [] ∧ Below w.heap.size w w' := by
  have HR0 := Aside0.mk hr0
  have HC0 := Aside0.mk hc0
  have HR1 := Aside0.mk hr1
  have HC1 := Aside0.mk hc1
  have HR3 := Aside0.mk hr3
  have HC3 := Aside0.mk hc3
  have HX := Aside0.mk hx
  have HBAD := Aside0.mk hbad
  have HBR := Aside0.mk hbr
  have HL0 := Aside0.mk hl0
  have HL0M := Aside0.mk hl0m
  have HL1M := Aside0.mk hl1m
  have d0 : decide ((l0.length : Int) > 1048576) = false := decide_eq_false (by omega)
  have d1 : decide (1048576 < l0.length) = false := decide_eq_false (by omega)
  have d2 : decide ((l1.length : Int) > 1048576) = false := decide_eq_false (by omega)
  have d3 : decide (1048576 < l1.length) = false := decide_eq_false (by omega)
  have m0 : Int.tmod (l0.length : Int) 24 = 0 := by rw [Int.tmod_eq_emod_of_nonneg (by omega)]; omega
  have d4 : decide ((l0.length : Int) < 24) = false := decide_eq_false (by omega)
  have d5 : decide (l0.length < 24) = false := decide_eq_false (by omega)
  have hmf : ∀ (fn : Fn) (first cap : Array Value) (w : World), (Instr.makeFunc fn first cap).run Try.prog w = .ok (.func fn first cap) w := fun _ _ _ _ => rfl
  clear hr0 hc0 hr1 hc1 hr3 hc3 hx hbad hbr hl0m hl1m hl0 hl024
  go_enter_defers Try.func26, Try.ntmps26
  go_wp2_with fail
  refine (fail_no _ _).mono ?_
  rintro e w1 ⟨rfl, hw1⟩
  obtain ⟨pl, hpl⟩ : ∃ pl, pl = w.heap.size := ⟨_, rfl⟩
  have hp1 : w1.heap[pl]? = some (.cells #[.slice none 0 0] 43 (0, 0)) := by
    rw [hw1, hpl]; exact blk_alloc (blk_alloc (blk_new w _) _) _
  have hp2 : w1.heap[pl + 1]? = some (.cells #[.int .i64 0] 29 (0, 0)) := by
    rw [hw1, hpl]
    have := blk_new (w.alloc (.cells #[.slice none 0 0] 43)) (.cells #[.int .i64 0] 29)
    rw [World.size_alloc] at this
    exact blk_alloc this _
  have hp3 : Rd w1 (pl + 1 + 1) A0 l0.length c0 A1 l1.length c1 A3 l3.length c3 := by
    unfold Rd
    rw [hw1, hpl]
    have := blk_new ((w.alloc (.cells #[.slice none 0 0] 43)).alloc (.cells #[.int .i64 0] 29)) (.cells #[.slice A0 l0.length c0, .slice A1 l1.length c1, .slice A3 l3.length c3] 79)
    rw [World.size_alloc, World.size_alloc] at this
    exact this
  have hB1 : Below pl w w1 := by
    rw [hw1, hpl]
    exact below_alloc (below_alloc (below_alloc (Below.refl _ _) _) _) _
  rw [← hpl]
  have HP1 := Aside0.mk hp1
  have HP2 := Aside0.mk hp2
  have HP3 := Aside0.mk hp3
  have HB1 := Aside0.mk hB1
  have HPL := Aside0.mk hpl
  clear hp1 hp2 hp3 hB1 hw1 hpl
  go_wp2
  go_loopg [11] (xs.length + 1) (fun kq v11 w' => ∃ (i : Nat) (v : Value), i + kq = xs.length + 1 ∧ i ≤ xs.length ∧ v11 = .int .i64 (24 * ((i : Int) + 1)) ∧ Aside0 (w'.heap[pl]? = some (.cells #[v] 43 (0, 0))) ∧ Aside0 (Kd.R k58 58 w' pl (fun k => k ≠ pl ∧ k ≠ pl + 1 ∧ k ≠ pl + 1 + 1) v (xs.take i)) ∧ Aside0 (w'.heap[pl + 1]? = some (.cells #[.int .i64 0] 29 (0, 0))) ∧ Aside0 (Rd w' (pl + 1 + 1) A0 l0.length c0 A1 l1.length c1 A3 l3.length c3) ∧ Aside0 (Below pl w w'))
  case atStart => exact ⟨0, .slice none 0 0, by omega, by omega, rfl, HP1, ⟨Kd.R_nil _ _ _ _ _⟩, HP2, HP3, HB1⟩
  case round =>
    clear HP1 HP2 HP3 HB1
    obtain ⟨i, v, hi, hi2, rfl, HP1, HV, HP2, HP3, HB1⟩ := hrel
    have hl0 := HL0.out
    have hl0m := HL0M.out
    cases gk with
    | zero => omega
    | succ k1 =>
    by_cases hix : i < xs.length
    case neg =>
      obtain rfl : i = xs.length := by omega
      have dl : decide (24 * ((xs.length : Int) + 1) < (l0.length : Int)) = true := decide_eq_true (by omega)
      have q1 : wr.cell? ⟨pl, 0, none⟩ = some v := (blk_cell HP1.out 0).trans rfl
      have HAT := Aside0.mk (show 0 ≤ 24 * ((xs.length : Int) + 1) ∧ 24 * ((xs.length : Int) + 1) ≤ 2097152 by omega)
      clear hl0 hl0m hi hi2 hix
      go_wp2
      refine start_ (n := 7) (S := fun u => u.cell? ⟨pl, 0, none⟩ = some v) (ds := [6]) #[false, false, false, false, false, false, false] (by kernel_rfl) rfl rfl ?_ (fun hHeld => ?_)
      case refine_1 => exact q1
      refine take_ (i := 0) (N := some 47) (v := ?_) (a' := ?_) #[true, false, false, false, false, false, false] rfl rfl (by kernel_rfl) (fun _ _ _ h => panic_put (by decide) (by decide) h) (Or.inl ⟨by rfl, ?_⟩) hHeld ?_ ?_
      rotate_left
      · rintro u s0
        go_simp
        with_reducible rfl
      rotate_left
      · simp only [Act.put, List.setIfInBounds_toArray, List.set_cons_zero, List.set_cons_succ, i64_w, i32_w]
        rfl
      refine pure_ (i := 1) (N := some 48) (v := ?_) (a' := ?_) #[true, true, false, false, false, false, false] rfl rfl (by kernel_rfl) (fun _ _ _ h => panic_put (by decide) (by decide) h) (Or.inl ⟨by rfl, ?_⟩) ?_ ?_
      rotate_left
      · intro u
        go_simp
        with_reducible rfl
      rotate_left
      · simp only [Act.put, List.setIfInBounds_toArray, List.set_cons_zero, List.set_cons_succ, i64_w, i32_w]
        rfl
      refine pure_ (i := 2) (N := some 49) (v := ?_) (a' := ?_) #[true, true, true, false, false, false, false] rfl rfl (by kernel_rfl) (fun _ _ _ h => panic_put (by decide) (by decide) h) (Or.inl ⟨by rfl, ?_⟩) ?_ ?_
      rotate_left
      · intro u
        go_simp
        with_reducible rfl
      rotate_left
      · simp only [Act.put, List.setIfInBounds_toArray, List.set_cons_zero, List.set_cons_succ, i64_w, i32_w]
        rfl
      refine one_ (i := 3) (N := some 50) #[true, true, true, true, false, false, false] rfl rfl (by kernel_rfl) (by decide) (fun K hK => ?_)
      refine goesP_ Try.func44 (by kernel_rfl) rfl #[.pointer (some ⟨pl + 1 + 1, 0, none⟩), .int .i64 (24 * ((xs.length : Int) + 1))] (by rfl) rfl rfl (by (try simp only [List.map_toArray, List.map_cons, List.map_nil]); first | done | rfl) ?_
      have HBW : Aside0 (Below w.heap.size w wr.drew) := ⟨by rw [← HPL.out]; exact below_drew1 HB1.out⟩
      refine (symbol_bad _ (pl + 1 + 1) A0 c0 l0 A1 c1 l1 A3 c3 l3 (Kd.C_below HR0.out HBW.out) HC0.out (Kd.C_below HR1.out HBW.out) HC1.out (Kd.C_below HR3.out HBW.out) (blk_drew HP3.out) _ HAT.out.1 HAT.out.2 HBR.out HL0M.out HL1M.out HBAD.out).mono ?_
      rintro e w2 ⟨rfl, hb⟩
      refine ⟨_, rfl, ?_⟩
      exact read_gives_up w w2 _ pl _ _ HPL.out rfl rfl (blk_below (blk_drew HP1.out) hb) (blk_below (blk_drew HP2.out) hb) ((below_drew1 HB1.out).trans (hb.mono (by have := blk_lt HP1.out; show pl ≤ wr.heap.size; omega)))
    case pos =>
      have dl : decide (24 * ((i : Int) + 1) < (l0.length : Int)) = true := decide_eq_true (by omega)
      have q1 : wr.cell? ⟨pl, 0, none⟩ = some v := (blk_cell HP1.out 0).trans rfl
      have q3 := blk_frozen HP1.out 0
      have hw24 : wrap64 (24 * ((i : Int) + 1) + 24) = 24 * (((i + 1 : Nat) : Int) + 1) := by unfold wrap64; omega
      have hw24i : IntKind.i64.wrap (24 * ((i : Int) + 1) + 24) = 24 * (((i + 1 : Nat) : Int) + 1) := by rw [IntKind.wrap_i64]; omega
      have HIX := Aside0.mk hix
      have HAT := Aside0.mk (show 0 ≤ 24 * ((i : Int) + 1) ∧ 24 * ((i : Int) + 1) ≤ 2097152 by omega)
      have HRN := Aside0.mk (show i + 1 + k1 = xs.length + 1 by omega)
      have HAL := Aside0.mk (show ((xs.take i).length + 1) * 64 ≤ 140737488355328 by rw [List.length_take]; omega)
      clear hl0 hl0m hi hi2 hix
      go_wp2
      obtain ⟨x, hxe⟩ : ∃ x, xs[i]'(by have := HIX.out; omega) = x := ⟨_, rfl⟩
      have HXS : Aside0 (symR l0 l1 l3 (24 * ((i : Int) + 1)) = some x) := ⟨by rw [← hxe]; exact HX.out i HIX.out⟩
      have HTK : Aside0 (xs.take i ++ [x] = xs.take (i + 1)) := ⟨by rw [← List.take_append_getElem (l := xs) (i := i) HIX.out, hxe]⟩
      have HTL : Aside0 ((xs.take (i + 1)).length = i + 1) := ⟨by rw [List.length_take]; have := HIX.out; omega⟩
      clear hxe
      have HLTW := Aside0.mk (blk_lt HP3.out)
      refine start_ (n := 7) (S := fun u => u.cell? ⟨pl, 0, none⟩ = some v) (ds := [6]) #[false, false, false, false, false, false, false] (by kernel_rfl) rfl rfl ?_ (fun hHeld => ?_)
      case refine_1 => exact q1
      refine take_ (i := 0) (N := some 47) (v := ?_) (a' := ?_) #[true, false, false, false, false, false, false] rfl rfl (by kernel_rfl) (fun _ _ _ h => panic_put (by decide) (by decide) h) (Or.inl ⟨by rfl, ?_⟩) hHeld ?_ ?_
      rotate_left
      · rintro u s0
        go_simp
        with_reducible rfl
      rotate_left
      · simp only [Act.put, List.setIfInBounds_toArray, List.set_cons_zero, List.set_cons_succ, i64_w, i32_w]
        rfl
      refine pure_ (i := 1) (N := some 48) (v := ?_) (a' := ?_) #[true, true, false, false, false, false, false] rfl rfl (by kernel_rfl) (fun _ _ _ h => panic_put (by decide) (by decide) h) (Or.inl ⟨by rfl, ?_⟩) ?_ ?_
      rotate_left
      · intro u
        go_simp
        with_reducible rfl
      rotate_left
      · simp only [Act.put, List.setIfInBounds_toArray, List.set_cons_zero, List.set_cons_succ, i64_w, i32_w]
        rfl
      refine pure_ (i := 2) (N := some 49) (v := ?_) (a' := ?_) #[true, true, true, false, false, false, false] rfl rfl (by kernel_rfl) (fun _ _ _ h => panic_put (by decide) (by decide) h) (Or.inl ⟨by rfl, ?_⟩) ?_ ?_
      rotate_left
      · intro u
        go_simp
        with_reducible rfl
      rotate_left
      · simp only [Act.put, List.setIfInBounds_toArray, List.set_cons_zero, List.set_cons_succ, i64_w, i32_w]
        rfl
      refine one_ (i := 3) (N := some 50) #[true, true, true, true, false, false, false] rfl rfl (by kernel_rfl) (by decide) (fun K hK => ?_)
      refine goes_ Try.func44 (by kernel_rfl) rfl #[.pointer (some ⟨pl + 1 + 1, 0, none⟩), .int .i64 (24 * ((i : Int) + 1))] (by rfl) rfl rfl (by (try simp only [List.map_toArray, List.map_cons, List.map_nil]); first | done | rfl) ?_
      have HBW : Aside0 (Below w.heap.size w wr.drew) := ⟨by rw [← HPL.out]; exact below_drew1 HB1.out⟩
      refine (symbol_calls _ (pl + 1 + 1) A0 c0 l0 A1 c1 l1 A3 c3 l3 (Kd.C_below HR0.out HBW.out) HC0.out (Kd.C_below HR1.out HBW.out) HC1.out (Kd.C_below HR3.out HBW.out) (blk_drew HP3.out) _ HAT.out.1 HAT.out.2 x HXS.out).mono ?_
      rintro e w2 ⟨rfl, hb⟩
      refine ⟨_, rfl, ?_⟩
      have HQ1 := Aside0.mk (blk_below (blk_drew HP1.out) hb)
      have HQ2 := Aside0.mk (blk_below (blk_drew HP2.out) hb)
      have HQ3 := Aside0.mk (show Rd w2 (pl + 1 + 1) A0 l0.length c0 A1 l1.length c1 A3 l3.length c3 from blk_below (blk_drew HP3.out) hb)
      have HV2 := Aside0.mk (Kd.R_below (Kd.R_drew HV.out) hb)
      have HB2 := Aside0.mk (show Below pl w w2 from (below_drew1 HB1.out).trans (hb.mono (by have := HLTW.out; show pl ≤ wr.heap.size; omega)))
      have g1 : w2.cell? ⟨pl, 0, none⟩ = some v := (blk_cell HQ1.out 0).trans rfl
      clear hb hHeld q1 q3 HBW HP1 HP2 HP3 HV
      refine hK.out _ _ g1 (fun hHeld => ?_)
      clear hK K
      refine norm_ (a' := ?_) ?_ ?_
      rotate_left
      · show Act.put _ (some 50) _ = _
        simp only [Act.put, List.setIfInBounds_toArray, List.set_cons_zero, List.set_cons_succ, i64_w, i32_w]
        rfl
      refine one_ (i := 4) (N := some 51) #[true, true, true, true, true, false, false] rfl rfl (by kernel_rfl) (by decide) (fun K hK => ?_)
      refine value_ (w1 := ?_) (v := ?_) (by rfl) rfl ?_ ?_
      rotate_left 2
      · go_simp
        constructor
        · rfl
        · rfl
      refine hK.out _ _ ((World.cell?_alloc_lt _ _ _ (World.block_lt_of_cell? _ _ g1)).trans g1) (fun hHeld => ?_)
      clear hK K
      refine norm_ (a' := ?_) ?_ ?_
      rotate_left
      · show Act.put _ (some 51) _ = _
        simp only [Act.put, List.setIfInBounds_toArray, List.set_cons_zero, List.set_cons_succ, i64_w, i32_w]
        rfl
      refine one_ (i := 5) (N := some 52) #[true, true, true, true, true, true, false] rfl rfl (by kernel_rfl) (by decide) (fun K hK => ?_)
      have hlt2 := blk_lt HQ3.out
      refine Kd.R_append_step k58 (w0 := w) pl (by rfl) (.tmp 47) (.tmp 51) 43 58 (.agg #[(.string ⟨#[]⟩), (.string ⟨#[]⟩), (.int .i64 0), (.int .i64 0), (.int .i64 0), (.int .i64 0)]) 64 rfl Try.underlying43 info58 rfl (by decide) (by decide) v (xs.take i) x [.string x.f0, .string x.f1, .int .i64 x.f2, .int .i64 x.f3, .int .i64 x.f4, .int .i64 x.f5] (fun k => k ≠ pl ∧ k ≠ pl + 1 ∧ k ≠ pl + 1 + 1) (fun _ => False) rfl rfl (k58_mkM _ _ _ x) (fun _ hk => hk.elim) (fun k hk => by omega) HV2.out HB2.out (by omega) HAL.out ?_
      intro v1 w4 ho hbb hg hat
      have HQ4 := Aside0.mk (blk_grown HQ1.out hg (fun e => (HV2.out.1 _ e.symm).1 rfl))
      have HQ5 := Aside0.mk (blk_grown HQ2.out hg (fun e => (HV2.out.1 _ e.symm).2.1 rfl))
      have HQ6 := Aside0.mk (show Rd w4 (pl + 1 + 1) A0 l0.length c0 A1 l1.length c1 A3 l3.length c3 from blk_grown HQ3.out hg (fun e => (HV2.out.1 _ e.symm).2.2 rfl))
      rw [HTK.out] at ho
      obtain ⟨A4, c4, rfl⟩ := Kd.R_slice ho
      rw [HTL.out] at ho ⊢
      have HO4 := Aside0.mk ho
      have HB4 := Aside0.mk hbb
      have g4 : w4.cell? ⟨pl, 0, none⟩ = some v := (blk_cell HQ4.out 0).trans rfl
      have g5 := blk_frozen HQ4.out 0
      clear ho hbb hg hat hlt2 hHeld
      refine hK.out _ _ g4 (fun hHeld => ?_)
      clear hK K
      refine norm_ (a' := ?_) ?_ ?_
      rotate_left
      · show Act.put _ (some 52) _ = _
        simp only [Act.put, List.setIfInBounds_toArray, List.set_cons_zero, List.set_cons_succ, i64_w, i32_w]
        rfl
      refine last_ (i := 6) (N := none) #[true, true, true, true, true, true, true] rfl rfl (by kernel_rfl) (by decide) (fun K hK => ?_)
      rw [if_pos (by rfl)]
      go_simp
      refine hK.out _ _ ?_
      clear hK K
      refine done_ (by kernel_rfl) ?_
      go_wp2
      go_roundg k1
      case measure => omega
      case rel => exact ⟨i + 1, .slice A4 (i + 1) c4, HRN.out, HIX.out, by rfl, ⟨blk_put HQ4.out 0 _ rfl⟩, ⟨Kd.R_far HO4.out (p := ⟨pl, 0, none⟩) (fun k hk => hk.1) _⟩, ⟨blk_far HQ5.out (by show pl + 1 ≠ pl; omega) _⟩, ⟨blk_far HQ6.out (by show pl + 1 + 1 ≠ pl; omega) _⟩, ⟨Below.setCell HB4.out (Nat.le_refl _) _⟩⟩
end Go.Proofs.Ytejdnanhnkjaoaa.SymR
end
section
namespace Go.Proofs.Ytejdnanhnkjaoaa.SymR
set_option linter.unusedVariables false
set_option linter.unusedSimpArgs false
open Go.RowKit Go.Proofs.Ytejdnanhnkjaoaa.G Go.Proofs.YtejdnanhnkjaoaaW.PrintWords Go.Proofs.YtejdnanhnkjaoaaW.PrintLast Go.Proofs.YtejdnanhnkjaoaaW.PrintMore
open Go.Proofs.Ytejdnanhnkjaoaa.Bit Go.Proofs.Ytejdnanhnkjaoaa.Sym
theorem equalG_l0 (a l : List Int) (hl : l.length ≤ 2000000) (he : a.length = l.length) (d : Nat) : ∀ k i, i + d = l.length → d < k → slices_Equal_byte_byte.l0 k a l (a.length : Int) (i : Int) = some (decide (a.drop i = l.drop i)) := by
  induction d with
  | zero =>
    intro k i h hk
    obtain ⟨k, rfl⟩ : ∃ m, k = m + 1 := ⟨k - 1, by omega⟩
    rw [slices_Equal_byte_byte.l0, if_neg (by omega), List.drop_of_length_le (by omega), List.drop_of_length_le (by omega)]
    rfl
  | succ d ih =>
    intro k i h hk
    obtain ⟨k, rfl⟩ : ∃ m, k = m + 1 := ⟨k - 1, by omega⟩
    have hi : i < l.length := by omega
    have hia : i < a.length := by omega
    have r1 : rd a (i : Int) = a[i] := by simp [rd, List.getD, hia]
    have r2 : rd l (i : Int) = l[i] := by simp [rd, List.getD, hi]
    rw [slices_Equal_byte_byte.l0, if_pos (by omega), if_pos (by omega), if_pos (by omega), if_pos (by omega), r1, r2, wrap64_id (by omega) (by omega), show (i : Int) + 1 = ((i + 1 : Nat) : Int) from by omega, ih k (i + 1) (by omega) (by omega), List.drop_eq_getElem_cons hi, List.drop_eq_getElem_cons hia]
    by_cases c : a[i] = l[i]
    · rw [if_pos c]
      refine congrArg some (decide_eq_decide.2 ⟨fun e => by rw [c, e], fun e => (List.cons.inj e).2⟩)
    · rw [if_neg c]
      exact congrArg some (decide_eq_false (fun e => c (List.cons.inj e).1)).symm
theorem equalG (a l : List Int) (hl : l.length ≤ 2000000) (k : Nat) (hk : l.length < k) : slices_Equal_byte_byte.f k a l = some (decide (a = l)) := by
  unfold slices_Equal_byte_byte.f
  by_cases c : a.length = l.length
  · rw [if_pos (by omega)]
    have := equalG_l0 a l hl c l.length k 0 (by omega) hk
    simpa using this
  · rw [if_neg (by omega), decide_eq_false (fun e => c (by rw [e]))]
set_option maxHeartbeats 2000000 in
set_option maxRecDepth 100000 in
theorem read_badD (A0 : Option Addr) (c0 : Nat) (l0 : List Int) (A1 : Option Addr) (c1 : Nat) (l1 : List Int) (a2 : Int) (A3 : Option Addr) (c3 : Nat) (l3 : List ByteArray) (w : World) (hr0 : Kd.C (Kd.int .u8) w A0 l0.length l0) (hc0 : l0.length ≤ c0) (hr1 : Kd.C (Kd.int .u8) w A1 l1.length l1) (hc1 : l1.length ≤ c1) (hr3 : Kd.C Kd.string w A3 l3.length l3) (hc3 : l3.length ≤ c3)
    (xs : List S58) (hl0 : l0.length = 24 * (xs.length + 1)) (hl0m : l0.length ≤ 1048576) (hl1m : l1.length ≤ 1048576) (hx : ∀ i (h : i < xs.length), symR l0 l1 l3 (24 * ((i : Int) + 1)) = some xs[i]) (a b : List Int) (n er : Int) (hw : SymW.writeF xs l3 = some (a, b, n, er)) (hno : ¬ (a = l0 ∧ b = l1 ∧ n = a2 ∧ er = 0)) :
    Calls Try.prog 26 #[.slice A0 l0.length c0, .slice A1 l1.length c1, .int .i64 a2, .slice A3 l3.length c3] w fun e w' => ∃ v0_ : Value, e = .returned (.tuple #[v0_, .int .i64 80]) ∧ Kd.R k58 58 w' w.heap.size (fun _ => True) v0_ [] ∧ Below w.heap.size w w' := by
  have HR0 := Aside0.mk hr0
  have HC0 := Aside0.mk hc0
  have HR1 := Aside0.mk hr1
  have HC1 := Aside0.mk hc1
  have HR3 := Aside0.mk hr3
  have HC3 := Aside0.mk hc3
  have HX := Aside0.mk hx
  have HW := Aside0.mk hw
  have HE0 := Aside0.mk (equalG a l0 (by omega) 2000001 (by omega))
  have HE1 := Aside0.mk (equalG b l1 (by omega) 2000001 (by omega))
  have HNO := Aside0.mk hno
  have HL0 := Aside0.mk hl0
  have HL0M := Aside0.mk hl0m
  have d0 : decide ((l0.length : Int) > 1048576) = false := decide_eq_false (by omega)
  have d1 : decide (1048576 < l0.length) = false := decide_eq_false (by omega)
  have d2 : decide ((l1.length : Int) > 1048576) = false := decide_eq_false (by omega)
  have d3 : decide (1048576 < l1.length) = false := decide_eq_false (by omega)
  have m0 : Int.tmod (l0.length : Int) 24 = 0 := by rw [Int.tmod_eq_emod_of_nonneg (by omega)]; omega
  have d4 : decide ((l0.length : Int) < 24) = false := decide_eq_false (by omega)
  have d5 : decide (l0.length < 24) = false := decide_eq_false (by omega)
  have hmf : ∀ (fn : Fn) (first cap : Array Value) (w : World), (Instr.makeFunc fn first cap).run Try.prog w = .ok (.func fn first cap) w := fun _ _ _ _ => rfl
  clear hr0 hc0 hr1 hc1 hr3 hc3 hx hw hno hl0m hl1m hl0
  go_enter_defers Try.func26, Try.ntmps26
  go_wp2_with fail
  refine (fail_no _ _).mono ?_
  rintro e w1 ⟨rfl, hw1⟩
  obtain ⟨pl, hpl⟩ : ∃ pl, pl = w.heap.size := ⟨_, rfl⟩
  have hp1 : w1.heap[pl]? = some (.cells #[.slice none 0 0] 43 (0, 0)) := by
    rw [hw1, hpl]; exact blk_alloc (blk_alloc (blk_new w _) _) _
  have hp2 : w1.heap[pl + 1]? = some (.cells #[.int .i64 0] 29 (0, 0)) := by
    rw [hw1, hpl]
    have := blk_new (w.alloc (.cells #[.slice none 0 0] 43)) (.cells #[.int .i64 0] 29)
    rw [World.size_alloc] at this
    exact blk_alloc this _
  have hp3 : Rd w1 (pl + 1 + 1) A0 l0.length c0 A1 l1.length c1 A3 l3.length c3 := by
    unfold Rd
    rw [hw1, hpl]
    have := blk_new ((w.alloc (.cells #[.slice none 0 0] 43)).alloc (.cells #[.int .i64 0] 29)) (.cells #[.slice A0 l0.length c0, .slice A1 l1.length c1, .slice A3 l3.length c3] 79)
    rw [World.size_alloc, World.size_alloc] at this
    exact this
  have hB1 : Below pl w w1 := by
    rw [hw1, hpl]
    exact below_alloc (below_alloc (below_alloc (Below.refl _ _) _) _) _
  rw [← hpl]
  have HP1 := Aside0.mk hp1
  have HP2 := Aside0.mk hp2
  have HP3 := Aside0.mk hp3
  have HB1 := Aside0.mk hB1
  have HPL := Aside0.mk hpl
  clear hp1 hp2 hp3 hB1 hw1 hpl
  go_wp2
  go_loopg [11] xs.length (fun kq v11 w' => ∃ (i : Nat) (v : Value), i + kq = xs.length ∧ v11 = .int .i64 (24 * ((i : Int) + 1)) ∧ Aside0 (w'.heap[pl]? = some (.cells #[v] 43 (0, 0))) ∧ Aside0 (Kd.R k58 58 w' pl (fun k => k ≠ pl ∧ k ≠ pl + 1 ∧ k ≠ pl + 1 + 1) v (xs.take i)) ∧ Aside0 (w'.heap[pl + 1]? = some (.cells #[.int .i64 0] 29 (0, 0))) ∧ Aside0 (Rd w' (pl + 1 + 1) A0 l0.length c0 A1 l1.length c1 A3 l3.length c3) ∧ Aside0 (Below pl w w'))
  case atStart => exact ⟨0, .slice none 0 0, by omega, rfl, HP1, ⟨Kd.R_nil _ _ _ _ _⟩, HP2, HP3, HB1⟩
  case round =>
    clear HP1 HP2 HP3 HB1
    obtain ⟨i, v, hi, rfl, HP1, HV, HP2, HP3, HB1⟩ := hrel
    have hl0 := HL0.out
    have hl0m := HL0M.out
    cases gk with
    | zero =>
      obtain rfl : i = xs.length := by omega
      rw [List.take_length] at HV
      have dl : decide (24 * ((xs.length : Int) + 1) < (l0.length : Int)) = false := decide_eq_false (by omega)
      have q1 : wr.cell? ⟨pl, 0, none⟩ = some v := (blk_cell HP1.out 0).trans rfl
      have q2 : wr.cell? ⟨pl + 1, 0, none⟩ = some (.int .i64 0) := (blk_cell HP2.out 0).trans rfl
      have q3 := blk_frozen HP1.out 0
      have q4 := blk_frozen HP2.out 0
      obtain ⟨Av, cv, rfl⟩ := Kd.R_slice HV.out
      clear hl0 hl0m hi
      go_wp2_with fail
      have HBW : Aside0 (Below w.heap.size w wr) := ⟨by rw [← HPL.out]; exact HB1.out⟩
      refine (SymW.write_calls Av cv xs A3 c3 l3 a b n er _ (Kd.R_reads' HV.out).2.2 (Kd.R_reads' HV.out).2.1 (Kd.C_below HR3.out HBW.out) HC3.out HW.out).mono ?_
      rintro e w2 ⟨va, vb, rfl, ha, hb_, hb⟩
      have HA := Aside0.mk ha
      have HBB := Aside0.mk hb_
      have HB2 := Aside0.mk (below_step HBW.out hb)
      have HQ1 := Aside0.mk (blk_below HP1.out hb)
      have HQ2 := Aside0.mk (blk_below HP2.out hb)
      have hge := hb.size
      have HGE := Aside0.mk hge
      clear ha hb_ hb q1 q2 q3 q4 hge
      obtain ⟨Aa, ca, rfl⟩ := Kd.R_slice HA.out
      obtain ⟨Ab, cb, rfl⟩ := Kd.R_slice HBB.out
      have HPB : Aside0 (Below pl w w2) := ⟨by rw [HPL.out]; exact HB2.out⟩
      by_cases ce : er = 0
      case neg =>
        have d8 : (er == 0) = false := beq_eq_false_iff_ne.mpr ce
        have d9 : (er != 0) = true := bne_iff_ne.mpr ce
        go_wp2_with fail
        refine (fail_yes _ _).mono ?_
        rintro e w5 ⟨rfl, rfl⟩
        exact read_gives_up w w5 _ pl _ _ HPL.out rfl rfl HQ1.out HQ2.out HPB.out
      subst ce
      by_cases cn : n = a2
      case neg =>
        have d8 : (n == a2) = false := beq_eq_false_iff_ne.mpr cn
        have d9 : (n != a2) = true := bne_iff_ne.mpr cn
        go_wp2_with fail
        refine (fail_yes _ _).mono ?_
        rintro e w5 ⟨rfl, rfl⟩
        exact read_gives_up w w5 _ pl _ _ HPL.out rfl rfl HQ1.out HQ2.out HPB.out
      subst cn
      go_wp2_with fail
      refine (slices_Equal_byte_byte.calls 2000001 Aa ca a A0 c0 l0 (decide (a = l0)) _ (Kd.R_reads' HA.out).2.2 (Kd.R_reads' HA.out).2.1 (Kd.C_below HR0.out HB2.out) HC0.out HE0.out).mono ?_
      rintro e w3 ⟨rfl, hd⟩
      have HB3 := Aside0.mk (below_step HB2.out hd.below)
      have HS1 := Aside0.mk (blk_below HQ1.out hd.below)
      have HS2 := Aside0.mk (blk_below HQ2.out hd.below)
      have HBB3 := Aside0.mk (Kd.R_below HBB.out hd.below)
      have HPB3 : Aside0 (Below pl w w3) := ⟨by rw [HPL.out]; exact HB3.out⟩
      clear hd
      by_cases ca_ : a = l0
      case neg =>
        rw [decide_eq_false ca_]
        go_wp2_with fail
        refine (fail_yes _ _).mono ?_
        rintro e w5 ⟨rfl, rfl⟩
        exact read_gives_up w w5 _ pl _ _ HPL.out rfl rfl HS1.out HS2.out HPB3.out
      rw [decide_eq_true ca_]
      have hbl : ¬ b = l1 := fun e => HNO.out (by first | exact ⟨ca_, e, rfl, rfl⟩ | simp [ca_, e])
      have HBL := Aside0.mk hbl
      clear hbl ca_
      go_wp2_with fail
      refine (slices_Equal_byte_byte.calls 2000001 Ab cb b A1 c1 l1 (decide (b = l1)) _ (Kd.R_reads' HBB3.out).2.2 (Kd.R_reads' HBB3.out).2.1 (Kd.C_below HR1.out HB3.out) HC1.out HE1.out).mono ?_
      rintro e w4 ⟨rfl, hd⟩
      have HB4 := Aside0.mk (below_step HB3.out hd.below)
      have HT1 := Aside0.mk (blk_below HS1.out hd.below)
      have HT2 := Aside0.mk (blk_below HS2.out hd.below)
      have HPB4 : Aside0 (Below pl w w4) := ⟨by rw [HPL.out]; exact HB4.out⟩
      clear hd
      rw [decide_eq_false HBL.out]
      go_wp2_with fail
      refine (fail_yes _ _).mono ?_
      rintro e w5 ⟨rfl, rfl⟩
      exact read_gives_up w w5 _ pl _ _ HPL.out rfl rfl HT1.out HT2.out HPB4.out
    | succ k1 =>
      have dl : decide (24 * ((i : Int) + 1) < (l0.length : Int)) = true := decide_eq_true (by omega)
      have q1 : wr.cell? ⟨pl, 0, none⟩ = some v := (blk_cell HP1.out 0).trans rfl
      have q3 := blk_frozen HP1.out 0
      have hw24 : wrap64 (24 * ((i : Int) + 1) + 24) = 24 * (((i + 1 : Nat) : Int) + 1) := by unfold wrap64; omega
      have hw24i : IntKind.i64.wrap (24 * ((i : Int) + 1) + 24) = 24 * (((i + 1 : Nat) : Int) + 1) := by rw [IntKind.wrap_i64]; omega
      have HIX := Aside0.mk (show i < xs.length by omega)
      have HAT := Aside0.mk (show 0 ≤ 24 * ((i : Int) + 1) ∧ 24 * ((i : Int) + 1) ≤ 2097152 by omega)
      have HRN := Aside0.mk (show i + 1 + k1 = xs.length by omega)
      have HAL := Aside0.mk (show ((xs.take i).length + 1) * 64 ≤ 140737488355328 by rw [List.length_take]; omega)
      clear hl0 hl0m hi
      go_wp2
      obtain ⟨x, hxe⟩ : ∃ x, xs[i]'(by have := HIX.out; omega) = x := ⟨_, rfl⟩
      have HXS : Aside0 (symR l0 l1 l3 (24 * ((i : Int) + 1)) = some x) := ⟨by rw [← hxe]; exact HX.out i HIX.out⟩
      have HTK : Aside0 (xs.take i ++ [x] = xs.take (i + 1)) := ⟨by rw [← List.take_append_getElem (l := xs) (i := i) HIX.out, hxe]⟩
      have HTL : Aside0 ((xs.take (i + 1)).length = i + 1) := ⟨by rw [List.length_take]; have := HIX.out; omega⟩
      clear hxe
      have HLTW := Aside0.mk (blk_lt HP3.out)
      refine start_ (n := 7) (S := fun u => u.cell? ⟨pl, 0, none⟩ = some v) (ds := [6]) #[false, false, false, false, false, false, false] (by kernel_rfl) rfl rfl ?_ (fun hHeld => ?_)
      case refine_1 => exact q1
      refine take_ (i := 0) (N := some 47) (v := ?_) (a' := ?_) #[true, false, false, false, false, false, false] rfl rfl (by kernel_rfl) (fun _ _ _ h => panic_put (by decide) (by decide) h) (Or.inl ⟨by rfl, ?_⟩) hHeld ?_ ?_
      rotate_left
      · rintro u s0
        go_simp
        with_reducible rfl
      rotate_left
      · simp only [Act.put, List.setIfInBounds_toArray, List.set_cons_zero, List.set_cons_succ, i64_w, i32_w]
        rfl
      refine pure_ (i := 1) (N := some 48) (v := ?_) (a' := ?_) #[true, true, false, false, false, false, false] rfl rfl (by kernel_rfl) (fun _ _ _ h => panic_put (by decide) (by decide) h) (Or.inl ⟨by rfl, ?_⟩) ?_ ?_
      rotate_left
      · intro u
        go_simp
        with_reducible rfl
      rotate_left
      · simp only [Act.put, List.setIfInBounds_toArray, List.set_cons_zero, List.set_cons_succ, i64_w, i32_w]
        rfl
      refine pure_ (i := 2) (N := some 49) (v := ?_) (a' := ?_) #[true, true, true, false, false, false, false] rfl rfl (by kernel_rfl) (fun _ _ _ h => panic_put (by decide) (by decide) h) (Or.inl ⟨by rfl, ?_⟩) ?_ ?_
      rotate_left
      · intro u
        go_simp
        with_reducible rfl
      rotate_left
      · simp only [Act.put, List.setIfInBounds_toArray, List.set_cons_zero, List.set_cons_succ, i64_w, i32_w]
        rfl
      refine one_ (i := 3) (N := some 50) #[true, true, true, true, false, false, false] rfl rfl (by kernel_rfl) (by decide) (fun K hK => ?_)
      refine goes_ Try.func44 (by kernel_rfl) rfl #[.pointer (some ⟨pl + 1 + 1, 0, none⟩), .int .i64 (24 * ((i : Int) + 1))] (by rfl) rfl rfl (by (try simp only [List.map_toArray, List.map_cons, List.map_nil]); first | done | rfl) ?_
      have HBW : Aside0 (Below w.heap.size w wr.drew) := ⟨by rw [← HPL.out]; exact below_drew1 HB1.out⟩
      refine (symbol_calls _ (pl + 1 + 1) A0 c0 l0 A1 c1 l1 A3 c3 l3 (Kd.C_below HR0.out HBW.out) HC0.out (Kd.C_below HR1.out HBW.out) HC1.out (Kd.C_below HR3.out HBW.out) (blk_drew HP3.out) _ HAT.out.1 HAT.out.2 x HXS.out).mono ?_
      rintro e w2 ⟨rfl, hb⟩
      refine ⟨_, rfl, ?_⟩
      have HQ1 := Aside0.mk (blk_below (blk_drew HP1.out) hb)
      have HQ2 := Aside0.mk (blk_below (blk_drew HP2.out) hb)
      have HQ3 := Aside0.mk (show Rd w2 (pl + 1 + 1) A0 l0.length c0 A1 l1.length c1 A3 l3.length c3 from blk_below (blk_drew HP3.out) hb)
      have HV2 := Aside0.mk (Kd.R_below (Kd.R_drew HV.out) hb)
      have HB2 := Aside0.mk (show Below pl w w2 from (below_drew1 HB1.out).trans (hb.mono (by have := HLTW.out; show pl ≤ wr.heap.size; omega)))
      have g1 : w2.cell? ⟨pl, 0, none⟩ = some v := (blk_cell HQ1.out 0).trans rfl
      clear hb hHeld q1 q3 HBW HP1 HP2 HP3 HV
      refine hK.out _ _ g1 (fun hHeld => ?_)
      clear hK K
      refine norm_ (a' := ?_) ?_ ?_
      rotate_left
      · show Act.put _ (some 50) _ = _
        simp only [Act.put, List.setIfInBounds_toArray, List.set_cons_zero, List.set_cons_succ, i64_w, i32_w]
        rfl
      refine one_ (i := 4) (N := some 51) #[true, true, true, true, true, false, false] rfl rfl (by kernel_rfl) (by decide) (fun K hK => ?_)
      refine value_ (w1 := ?_) (v := ?_) (by rfl) rfl ?_ ?_
      rotate_left 2
      · go_simp
        constructor
        · rfl
        · rfl
      refine hK.out _ _ ((World.cell?_alloc_lt _ _ _ (World.block_lt_of_cell? _ _ g1)).trans g1) (fun hHeld => ?_)
      clear hK K
      refine norm_ (a' := ?_) ?_ ?_
      rotate_left
      · show Act.put _ (some 51) _ = _
        simp only [Act.put, List.setIfInBounds_toArray, List.set_cons_zero, List.set_cons_succ, i64_w, i32_w]
        rfl
      refine one_ (i := 5) (N := some 52) #[true, true, true, true, true, true, false] rfl rfl (by kernel_rfl) (by decide) (fun K hK => ?_)
      have hlt2 := blk_lt HQ3.out
      refine Kd.R_append_step k58 (w0 := w) pl (by rfl) (.tmp 47) (.tmp 51) 43 58 (.agg #[(.string ⟨#[]⟩), (.string ⟨#[]⟩), (.int .i64 0), (.int .i64 0), (.int .i64 0), (.int .i64 0)]) 64 rfl Try.underlying43 info58 rfl (by decide) (by decide) v (xs.take i) x [.string x.f0, .string x.f1, .int .i64 x.f2, .int .i64 x.f3, .int .i64 x.f4, .int .i64 x.f5] (fun k => k ≠ pl ∧ k ≠ pl + 1 ∧ k ≠ pl + 1 + 1) (fun _ => False) rfl rfl (k58_mkM _ _ _ x) (fun _ hk => hk.elim) (fun k hk => by omega) HV2.out HB2.out (by omega) HAL.out ?_
      intro v1 w4 ho hbb hg hat
      have HQ4 := Aside0.mk (blk_grown HQ1.out hg (fun e => (HV2.out.1 _ e.symm).1 rfl))
      have HQ5 := Aside0.mk (blk_grown HQ2.out hg (fun e => (HV2.out.1 _ e.symm).2.1 rfl))
      have HQ6 := Aside0.mk (show Rd w4 (pl + 1 + 1) A0 l0.length c0 A1 l1.length c1 A3 l3.length c3 from blk_grown HQ3.out hg (fun e => (HV2.out.1 _ e.symm).2.2 rfl))
      rw [HTK.out] at ho
      obtain ⟨A4, c4, rfl⟩ := Kd.R_slice ho
      rw [HTL.out] at ho ⊢
      have HO4 := Aside0.mk ho
      have HB4 := Aside0.mk hbb
      have g4 : w4.cell? ⟨pl, 0, none⟩ = some v := (blk_cell HQ4.out 0).trans rfl
      have g5 := blk_frozen HQ4.out 0
      clear ho hbb hg hat hlt2 hHeld
      refine hK.out _ _ g4 (fun hHeld => ?_)
      clear hK K
      refine norm_ (a' := ?_) ?_ ?_
      rotate_left
      · show Act.put _ (some 52) _ = _
        simp only [Act.put, List.setIfInBounds_toArray, List.set_cons_zero, List.set_cons_succ, i64_w, i32_w]
        rfl
      refine last_ (i := 6) (N := none) #[true, true, true, true, true, true, true] rfl rfl (by kernel_rfl) (by decide) (fun K hK => ?_)
      rw [if_pos (by rfl)]
      go_simp
      refine hK.out _ _ ?_
      clear hK K
      refine done_ (by kernel_rfl) ?_
      go_wp2
      go_roundg k1
      case measure => omega
      case rel => exact ⟨i + 1, .slice A4 (i + 1) c4, HRN.out, by rfl, ⟨blk_put HQ4.out 0 _ rfl⟩, ⟨Kd.R_far HO4.out (p := ⟨pl, 0, none⟩) (fun k hk => hk.1) _⟩, ⟨blk_far HQ5.out (by show pl + 1 ≠ pl; omega) _⟩, ⟨blk_far HQ6.out (by show pl + 1 + 1 ≠ pl; omega) _⟩, ⟨Below.setCell HB4.out (Nat.le_refl _) _⟩⟩
end Go.Proofs.Ytejdnanhnkjaoaa.SymR
end
section
namespace Go.Proofs.Ytejdnanhnkjaoaa.SymR
set_option linter.unusedVariables false
set_option linter.unusedSimpArgs false
open Go.RowKit Go.Proofs.Ytejdnanhnkjaoaa.G Go.Proofs.YtejdnanhnkjaoaaW.PrintWords Go.Proofs.YtejdnanhnkjaoaaW.PrintLast Go.Proofs.YtejdnanhnkjaoaaW.PrintMore
open Go.Proofs.Ytejdnanhnkjaoaa.Bit Go.Proofs.Ytejdnanhnkjaoaa.Sym
/-- what symtab.Read answers -/
def readG (l0 l1 : List Int) (a2 : Int) (l3 : List ByteArray) : List S58 × Int :=
  if l0.length > 1048576 ∨ l1.length > 1048576 then ([], 6)
  else if l0.length % 24 ≠ 0 ∨ l0.length < 24 then ([], 80)
  else match symsR l0 l1 l3 (l0.length / 24 - 1) 0 with
    | none => ([], 80)
    | some xs => if SymW.writeF xs l3 = some (l0, l1, a2, 0) then (xs, 0) else ([], 80)
theorem symsR_none (l0 l1 : List Int) (l3 : List ByteArray) : ∀ (d i : Nat), symsR l0 l1 l3 d i = none → ∃ xs : List S58, xs.length < d ∧ (∀ j (h : j < xs.length), symR l0 l1 l3 (24 * (((i + j : Nat) : Int) + 1)) = some xs[j]) ∧ symR l0 l1 l3 (24 * (((i + xs.length : Nat) : Int) + 1)) = none
  | 0, i, h => by cases h
  | d + 1, i, h => by
    simp only [symsR] at h
    cases hx : symR l0 l1 l3 (24 * ((i : Int) + 1)) with
    | none => exact ⟨[], by simp, fun j hj => by simp at hj, by simpa using hx⟩
    | some x =>
      rw [hx, Option.bind_some] at h
      obtain ⟨xs, h1, h2, h3⟩ := symsR_none l0 l1 l3 d (i + 1) (by simpa using h)
      refine ⟨x :: xs, by simp; omega, fun j hj => ?_, ?_⟩
      · cases j with
        | zero => exact hx
        | succ j =>
          have := h2 j (by simpa using hj)
          rw [show i + 1 + j = i + (j + 1) from by omega] at this
          exact this
      · rw [show i + (x :: xs).length = i + 1 + xs.length from by simp; omega]
        exact h3
def readGF (l0 l1 : List Int) (a2 : Int) (l3 : List ByteArray) : Option (List S58 × Int) := if l0.all (fun b => decide (0 ≤ b ∧ b ≤ 255)) = true then some (readG l0 l1 a2 l3) else none
theorem readGF_calls (A0 : Option Addr) (c0 : Nat) (l0 : List Int) (A1 : Option Addr) (c1 : Nat) (l1 : List Int) (a2 : Int) (A3 : Option Addr) (c3 : Nat) (l3 : List ByteArray) (r1 : List S58) (r2 : Int) (w : World) (hr0 : Kd.C (Kd.int .u8) w A0 l0.length l0) (hc0 : l0.length ≤ c0) (hr1 : Kd.C (Kd.int .u8) w A1 l1.length l1) (hc1 : l1.length ≤ c1) (hr3 : Kd.C Kd.string w A3 l3.length l3) (hc3 : l3.length ≤ c3) (h : readGF l0 l1 a2 l3 = some (r1, r2)) :
    Calls Try.prog 26 #[.slice A0 l0.length c0, .slice A1 l1.length c1, .int .i64 a2, .slice A3 l3.length c3] w fun e w' => ∃ v0_ : Value, e = .returned (.tuple #[v0_, .int .i64 r2]) ∧ Kd.R k58 58 w' w.heap.size (fun _ => True) v0_ r1 ∧ Below w.heap.size w w' := by
  unfold readGF at h
  split at h
  case isFalse => cases h
  rename_i hbr
  have hb : ∀ b ∈ l0, 0 ≤ b ∧ b ≤ 255 := fun b hb => by simpa using List.all_eq_true.1 hbr b hb
  have h' := Option.some.inj h
  unfold readG at h'
  split at h'
  · rename_i c
    obtain ⟨rfl, rfl⟩ := Prod.mk.inj h'
    exact read_long A0 c0 l0 A1 c1 l1 a2 A3 c3 l3 w c
  rename_i c
  split at h'
  · rename_i c2
    obtain ⟨rfl, rfl⟩ := Prod.mk.inj h'
    exact read_shape A0 c0 l0 A1 c1 l1 a2 A3 c3 l3 w (by omega) (by omega) c2
  rename_i c2
  split at h'
  · rename_i hs
    obtain ⟨rfl, rfl⟩ := Prod.mk.inj h'
    obtain ⟨xs, h1, h2, h3⟩ := symsR_none l0 l1 l3 _ 0 hs
    refine read_badC A0 c0 l0 A1 c1 l1 a2 A3 c3 l3 w hr0 hc0 hr1 hc1 hr3 hc3 xs (by omega) (by omega) (by omega) (by omega) (fun i hi => ?_) ?_ hb
    · have := h2 i hi; rw [Nat.zero_add] at this; exact this
    · rw [Nat.zero_add] at h3; exact h3
  · rename_i xs hs
    obtain ⟨h3, h4⟩ := symsR_get l0 l1 l3 _ 0 xs hs
    have hx : ∀ i (hi : i < xs.length), symR l0 l1 l3 (24 * ((i : Int) + 1)) = some xs[i] := fun i hi => by
      have := h4 i hi; rw [Nat.zero_add] at this; exact this
    split at h'
    · rename_i hw
      obtain ⟨rfl, rfl⟩ := Prod.mk.inj h'
      exact read_ok A0 c0 l0 A1 c1 l1 a2 A3 c3 l3 w hr0 hc0 hr1 hc1 hr3 hc3 xs (by omega) (by omega) (by omega) hx hw 2000000 (equal_f l0 (by omega) _ (by omega)) (equal_f l1 (by omega) _ (by omega))
    · rename_i hw
      obtain ⟨rfl, rfl⟩ := Prod.mk.inj h'
      obtain ⟨⟨a, b, n, er⟩, hr⟩ := SymW.write_some xs l3
      refine read_badD A0 c0 l0 A1 c1 l1 a2 A3 c3 l3 w hr0 hc0 hr1 hc1 hr3 hc3 xs (by omega) (by omega) (by omega) hx a b n er hr ?_
      rintro ⟨rfl, rfl, rfl, rfl⟩
      exact hw hr
end Go.Proofs.Ytejdnanhnkjaoaa.SymR
end
section
namespace Go.Proofs.Ytejdnanhnkjaoaa.G
open Go.RowKit Go.Proofs.YtejdnanhnkjaoaaW.PrintWords Go.Proofs.YtejdnanhnkjaoaaW.PrintLast Go.Proofs.YtejdnanhnkjaoaaW.PrintMore
attribute [local go_sem] max2_int min2_int max_two min_two max_three min_three max_four min_four   -- for this text's walks alone
set_option linter.unusedVariables false
set_option linter.unusedSimpArgs false
def symtab_Read.f (l0 l1 : List Int) (a2 : Int) (l3 : List ByteArray) : Option (List S58 × Int) := SymR.readGF l0 l1 a2 l3
theorem symtab_Read.calls (A0 : Option Addr) (c0 : Nat) (l0 : List Int) (A1 : Option Addr) (c1 : Nat) (l1 : List Int) (a2 : Int) (A3 : Option Addr) (c3 : Nat) (l3 : List ByteArray) (r1 : List S58) (r2 : Int) (w : World) (hr0 : Kd.C (Kd.int .u8) w A0 l0.length l0) (hc0 : l0.length ≤ c0) (hr1 : Kd.C (Kd.int .u8) w A1 l1.length l1) (hc1 : l1.length ≤ c1) (hr3 : Kd.C Kd.string w A3 l3.length l3) (hc3 : l3.length ≤ c3) (h : symtab_Read.f l0 l1 a2 l3 = some (r1, r2)) :
  Calls Try.prog 26 #[.slice A0 l0.length c0, .slice A1 l1.length c1, .int .i64 a2, .slice A3 l3.length c3] w fun e w' => ∃ v0_ : Value, e = .returned (.tuple #[v0_, .int .i64 r2]) ∧ Kd.R k58 58 w' w.heap.size (fun _ => True) v0_ r1 ∧ Below w.heap.size w w' := SymR.readGF_calls A0 c0 l0 A1 c1 l1 a2 A3 c3 l3 r1 r2 w hr0 hc0 hr1 hc1 hr3 hc3 h
end Go.Proofs.Ytejdnanhnkjaoaa.G
end
section
namespace Go.Proofs.Ytejdnanhnkjaoaa.G
open Go.RowKit Go.Proofs.YtejdnanhnkjaoaaW.PrintWords Go.Proofs.YtejdnanhnkjaoaaW.PrintLast Go.Proofs.YtejdnanhnkjaoaaW.PrintMore
attribute [local go_sem] max2_int min2_int max_two min_two max_three min_three max_four min_four   -- for this text's walks alone
set_option linter.unusedVariables false
set_option linter.unusedSimpArgs false
mutual
def gangwayref08_At.j0 : Nat → List Int → Int → Bool → Option (ByteArray × Int)
 | 0, _, _, _ => none
 | k + 1, x0, x1, x14 => if x14 = true then (some ((⟨#[]⟩ : ByteArray), 11)) else (gangwayref08_At.l0 k x0 x1 x1)
def gangwayref08_At.j2 : Nat → List Int → Int → Int → Option (ByteArray × Int)
 | 0, _, _, _ => none
 | k + 1, x0, x1, x6 => if x6 = (x0.length : Int) then (some ((⟨#[]⟩ : ByteArray), 20)) else (if (wrap64 (x6 - x1)) > 255 then (some ((⟨#[]⟩ : ByteArray), 6)) else (if 0 ≤ x1 then (if x1 ≤ x6 then (if x6 ≤ (x0.length : Int) then (some (strOfNums ((x0.take (x6 : Int).toNat).drop (x1 : Int).toNat), 0)) else (none)) else (none)) else (none)))
def gangwayref08_At.l0 : Nat → List Int → Int → Int → Option (ByteArray × Int)
 | 0, _, _, _ => none
 | k + 1, x0, x1, x6 => if x6 < (x0.length : Int) then (if 0 ≤ x6 then (if (rd x0 x6) = 0 then (gangwayref08_At.j2 k x0 x1 x6) else (gangwayref08_At.l0 k x0 x1 (wrap64 (x6 + 1)))) else (none)) else (gangwayref08_At.j2 k x0 x1 x6)
end
def gangwayref08_At.f (k : Nat) (l0 : List Int) (a1 : Int) : Option (ByteArray × Int) := if a1 < 0 then (gangwayref08_At.j0 k l0 a1 true) else (gangwayref08_At.j0 k l0 a1 (decide (a1 ≥ (l0.length : Int))))
theorem gangwayref08_At.mono_l : ∀ k, (∀ y0 y1 y2, LeO (gangwayref08_At.j0 k y0 y1 y2) (gangwayref08_At.j0 (k + 1) y0 y1 y2)) ∧ (∀ y0 y1 y2, LeO (gangwayref08_At.j2 k y0 y1 y2) (gangwayref08_At.j2 (k + 1) y0 y1 y2)) ∧ (∀ y0 y1 y2, LeO (gangwayref08_At.l0 k y0 y1 y2) (gangwayref08_At.l0 (k + 1) y0 y1 y2))
 | 0 => ⟨fun _ _ _ r h => by simp [gangwayref08_At.j0] at h, fun _ _ _ r h => by simp [gangwayref08_At.j2] at h, fun _ _ _ r h => by simp [gangwayref08_At.l0] at h⟩
 | k + 1 => by
  obtain ⟨ih0, ih1, ih2⟩ := gangwayref08_At.mono_l k
  refine ⟨?_, ?_, ?_⟩
  ·
   intro y0 y1 y2
   unfold gangwayref08_At.j0
   repeat' first
   | (with_reducible exact ih0 _ _ _)
   | (with_reducible exact ih1 _ _ _)
   | (with_reducible exact ih2 _ _ _)
   | (with_reducible exact LeO.refl _)
   | (with_reducible exact LeO.none _)
   | (with_reducible refine LeO.ite ?_ ?_)
   | (with_reducible refine LeO.bind ?_ (fun _ => ?_))
   | exact ih0 _ _ _
   | exact ih1 _ _ _
   | exact ih2 _ _ _
   | exact LeO.none _
   | refine LeO.ite ?_ ?_
   | refine LeO.bind ?_ (fun _ => ?_)
  ·
   intro y0 y1 y2
   unfold gangwayref08_At.j2
   repeat' first
   | (with_reducible exact ih0 _ _ _)
   | (with_reducible exact ih1 _ _ _)
   | (with_reducible exact ih2 _ _ _)
   | (with_reducible exact LeO.refl _)
   | (with_reducible exact LeO.none _)
   | (with_reducible refine LeO.ite ?_ ?_)
   | (with_reducible refine LeO.bind ?_ (fun _ => ?_))
   | exact ih0 _ _ _
   | exact ih1 _ _ _
   | exact ih2 _ _ _
   | exact LeO.none _
   | refine LeO.ite ?_ ?_
   | refine LeO.bind ?_ (fun _ => ?_)
  ·
   intro y0 y1 y2
   unfold gangwayref08_At.l0
   repeat' first
   | (with_reducible exact ih0 _ _ _)
   | (with_reducible exact ih1 _ _ _)
   | (with_reducible exact ih2 _ _ _)
   | (with_reducible exact LeO.refl _)
   | (with_reducible exact LeO.none _)
   | (with_reducible refine LeO.ite ?_ ?_)
   | (with_reducible refine LeO.bind ?_ (fun _ => ?_))
   | exact ih0 _ _ _
   | exact ih1 _ _ _
   | exact ih2 _ _ _
   | exact LeO.none _
   | refine LeO.ite ?_ ?_
   | refine LeO.bind ?_ (fun _ => ?_)
theorem gangwayref08_At.mono : ∀ a0 a1 k, LeO (gangwayref08_At.f k a0 a1) (gangwayref08_At.f (k + 1) a0 a1) := by
 intro a0 a1 k
 obtain ⟨ih0, ih1, ih2⟩ := gangwayref08_At.mono_l k
 unfold gangwayref08_At.f
 repeat' first
   | (with_reducible exact ih0 _ _ _)
   | (with_reducible exact ih1 _ _ _)
   | (with_reducible exact ih2 _ _ _)
   | (with_reducible exact LeO.refl _)
   | (with_reducible exact LeO.none _)
   | (with_reducible refine LeO.ite ?_ ?_)
   | (with_reducible refine LeO.bind ?_ (fun _ => ?_))
   | exact ih0 _ _ _
   | exact ih1 _ _ _
   | exact ih2 _ _ _
   | exact LeO.none _
   | refine LeO.ite ?_ ?_
   | refine LeO.bind ?_ (fun _ => ?_)
set_option maxHeartbeats 8000000 in
set_option maxRecDepth 100000 in
theorem gangwayref08_At.calls (k : Nat) (A0 : Option Addr) (c0 : Nat) (l0 : List Int) (a1 : Int) (r1 : ByteArray) (r2 : Int) (w : World) (hr0 : Kd.C (Kd.int .u8) w A0 l0.length l0) (hc0 : l0.length ≤ c0) (h : gangwayref08_At.f k l0 a1 = some (r1, r2)) :
  Calls Try.prog 15 #[.slice A0 l0.length c0, .int .i64 a1] w fun e w' => e = .returned (.tuple #[.string r1, .int .i64 r2]) ∧ Drawn0 w w' := by
 have HR0 := Aside0.mk hr0
 have HC0 := Aside0.mk hc0
 clear hr0 hc0
 have H : (if a1 < 0 then (gangwayref08_At.j0 k l0 a1 true) else (gangwayref08_At.j0 k l0 a1 (decide (a1 ≥ (l0.length : Int))))) = some (r1, r2) := h
 clear h
 have HC3 := Aside0.mk H
 clear H
 go_enter Try.func15, Try.ntmps15
 go_upto_region 1 with (fail)
 go_cut [14] (fun v14 wc => ∃ (kq : Nat) (x14_2 : Bool), v14 = .bool x14_2 ∧ Aside0 (gangwayref08_At.j0 kq l0 a1 x14_2 = some (r1, r2)) ∧ Aside0 (kq ≤ k) ∧ Drawn0 w wc)
 case first =>
  have H := HC3.out
  clear HC3
  by_cases c4 : a1 < 0
  ·
   rw [if_pos c4] at H
   have c4b0 : decide (a1 < 0) = true := decide_eq_true c4
   clear c4
   (first | rw [c4b0] | (simp only [i64_w, i32_w]; rw [c4b0]) | skip)
   have H' := Aside0.mk H
   clear H
   go_wp2
   go_meet
   case rel => exact ⟨_, (true), (by first | rfl | (simp; done) | (simp [*]; done) | (simp [show ∀ l_ : List UInt8, (l_ != []) = !l_.isEmpty from fun l_ => by cases l_ <;> rfl]; done) | (congr 1; refine congr (congrArg (Go.bits _ _) ?_) ?_ <;> omega)), H', ⟨by first | omega | exact Nat.le_refl _⟩, by repeat (first | exact Drawn0.refl _ | apply Drawn0.step)⟩
  ·
   rw [if_neg c4] at H
   have c4b0 : decide (a1 < 0) = false := decide_eq_false c4
   clear c4
   (first | rw [c4b0] | (simp only [i64_w, i32_w]; rw [c4b0]) | skip)
   have H' := Aside0.mk H
   clear H
   go_wp2
   go_meet
   case rel => exact ⟨_, (decide (a1 ≥ (l0.length : Int))), (by first | rfl | (simp; done) | (simp [*]; done) | (simp [show ∀ l_ : List UInt8, (l_ != []) = !l_.isEmpty from fun l_ => by cases l_ <;> rfl]; done) | (congr 1; refine congr (congrArg (Go.bits _ _) ?_) ?_ <;> omega)), H', ⟨by first | omega | exact Nat.le_refl _⟩, by repeat (first | exact Drawn0.refl _ | apply Drawn0.step)⟩
 case rest =>
  clear HC3
  try clear c1
  try clear p2
  try clear c4
  try clear c4b0
  obtain ⟨kq, x14_2, rfl, HA, HJ2, ⟨mc2, rfl⟩⟩ := hcut
  cases kq with
  | zero => exact absurd HA.out (by simp [gangwayref08_At.j0])
  | succ kj2 =>
   have H := HA.out
   clear HA
   simp only [gangwayref08_At.j0] at H
   by_cases c5 : x14_2 = true
   ·
    subst c5
    have H1 : (some ((⟨#[]⟩ : ByteArray), 11)) = some (r1, r2) := by rw [if_pos rfl] at H; exact H
    clear H
    have H := H1
    clear H1
    simp only [Option.some.injEq, Prod.mk.injEq] at H
    obtain ⟨rfl, rfl⟩ := H
    go_wp2
    go_ret2
    exact ⟨by first | rfl | (simp; done) | (simp [*]; done), by repeat (first | exact Drawn0.refl _ | apply Drawn0.step)⟩
   ·
    replace c5 := Bool.eq_false_iff.mpr c5
    subst c5
    have H1 : (gangwayref08_At.l0 kj2 l0 a1 a1) = some (r1, r2) := by rw [if_neg (show ¬ (false = true) by decide)] at H; exact H
    clear H
    have H := H1
    clear H1
    have HC6 := Aside0.mk H
    clear H
    go_upto_block 0 with (fail)
    go_cut [6] (fun v6 wc => ∃ (kq : Nat) (x6_5 : Int), v6 = .int .i64 x6_5 ∧ Aside0 (gangwayref08_At.j2 kq l0 a1 x6_5 = some (r1, r2)) ∧ Aside0 (kq ≤ kj2) ∧ Drawn0 w wc)
    case first =>
     have H := HC6.out
     clear HC6
     have H' := Aside0.mk H
     clear H
     go_wp2
     go_loopg [6] kj2 (fun kq v6 w' => ∃ (x6_2 : Int), v6 = .int .i64 x6_2 ∧ Aside0 (gangwayref08_At.l0 kq l0 a1 x6_2 = some (r1, r2)) ∧ Aside0 (kq ≤ kj2) ∧ Drawn0 w w')
     case atStart => exact ⟨(a1), (by first | rfl | (simp; done) | (simp [*]; done) | (simp [show ∀ l_ : List UInt8, (l_ != []) = !l_.isEmpty from fun l_ => by cases l_ <;> rfl]; done) | (congr 1; refine congr (congrArg (Go.bits _ _) ?_) ?_ <;> omega)), H', ⟨Nat.le_refl _⟩, by repeat (first | exact Drawn0.refl _ | apply Drawn0.step)⟩
     case round =>
      clear H'
      try clear c1
      try clear c2
      try clear p2
      try clear c4
      try clear c4b0
      try clear c5
      try clear p2
      obtain ⟨x6_2, rfl, HA, HK2, ⟨m2, rfl⟩⟩ := hrel
      cases gk with
      | zero => exact absurd HA.out (by simp [gangwayref08_At.l0])
      | succ k2 =>
       have H := HA.out
       clear HA
       simp only [gangwayref08_At.l0] at H
       by_cases c7 : x6_2 < (l0.length : Int)
       ·
        rw [if_pos c7] at H
        have c7b0 : decide (x6_2 < (l0.length : Int)) = true := decide_eq_true c7
        clear c7
        (first | rw [c7b0] | (simp only [i64_w, i32_w]; rw [c7b0]) | skip)
        by_cases c8 : 0 ≤ x6_2
        ·
         rw [if_pos c8] at H
         have c8b0 : decide (0 ≤ x6_2) = true := decide_eq_true c8
         clear c8
         by_cases c9 : (rd l0 x6_2) = 0
         ·
          rw [if_pos c9] at H
          have c9b0 : ((rd l0 x6_2) == 0) = true := beq_iff_eq.mpr c9
          have c9b1 : ((rd l0 x6_2) != 0) = false := bne_eq_false_iff_eq.mpr c9
          clear c9
          have H' := Aside0.mk H
          clear H
          have p101 : 0 ≤ (x6_2 : Int) := of_decide_eq_true (by first | (with_reducible assumption) | assumption)
          have q101 : x6_2 < (l0.length : Int) := of_decide_eq_true (by first | (with_reducible assumption) | assumption)
          obtain ⟨ad101, e101, hx101_0⟩ := Kd.at_int HR0.out x6_2 p101 q101
          cases e101
          replace p101 := eq_true p101
          replace q101 := eq_true q101
          go_wp2
          go_meet
          case rel => exact ⟨_, (x6_2), (by first | rfl | (simp; done) | (simp [*]; done) | (simp [show ∀ l_ : List UInt8, (l_ != []) = !l_.isEmpty from fun l_ => by cases l_ <;> rfl]; done) | (congr 1; refine congr (congrArg (Go.bits _ _) ?_) ?_ <;> omega)), H', ⟨by have := HJ2.out; have := HK2.out; first | omega | exact Nat.le_refl _⟩, by repeat (first | exact Drawn0.refl _ | apply Drawn0.step)⟩
         ·
          rw [if_neg c9] at H
          have c9b0 : ((rd l0 x6_2) == 0) = false := beq_eq_false_iff_ne.mpr c9
          have c9b1 : ((rd l0 x6_2) != 0) = true := bne_iff_ne.mpr c9
          have H' := Aside0.mk H
          clear H
          have p101 : 0 ≤ (x6_2 : Int) := of_decide_eq_true (by first | (with_reducible assumption) | assumption)
          have q101 : x6_2 < (l0.length : Int) := of_decide_eq_true (by first | (with_reducible assumption) | assumption)
          obtain ⟨ad101, e101, hx101_0⟩ := Kd.at_int HR0.out x6_2 p101 q101
          cases e101
          replace p101 := eq_true p101
          replace q101 := eq_true q101
          go_wp2
          go_roundg k2
          case measure => have := HJ2.out; have := HK2.out; omega
          case rel => exact ⟨(wrap64 (x6_2 + 1)), (by first | rfl | (simp; done) | (simp [*]; done) | (simp [show ∀ l_ : List UInt8, (l_ != []) = !l_.isEmpty from fun l_ => by cases l_ <;> rfl]; done) | (congr 1; refine congr (congrArg (Go.bits _ _) ?_) ?_ <;> omega)), H', ⟨by have := HJ2.out; have := HK2.out; omega⟩, by repeat (first | exact Drawn0.refl _ | apply Drawn0.step)⟩
        ·
         rw [if_neg c8] at H
         exact absurd H (by simp)
       ·
        rw [if_neg c7] at H
        have c7b0 : decide (x6_2 < (l0.length : Int)) = false := decide_eq_false c7
        clear c7
        (first | rw [c7b0] | (simp only [i64_w, i32_w]; rw [c7b0]) | skip)
        have H' := Aside0.mk H
        clear H
        go_wp2
        go_meet
        case rel => exact ⟨_, (x6_2), (by first | rfl | (simp; done) | (simp [*]; done) | (simp [show ∀ l_ : List UInt8, (l_ != []) = !l_.isEmpty from fun l_ => by cases l_ <;> rfl]; done) | (congr 1; refine congr (congrArg (Go.bits _ _) ?_) ?_ <;> omega)), H', ⟨by have := HJ2.out; have := HK2.out; first | omega | exact Nat.le_refl _⟩, by repeat (first | exact Drawn0.refl _ | apply Drawn0.step)⟩
    case rest =>
     clear HC6
     try clear c1
     try clear p1
     try clear q1
     try clear hx1
     try clear c2
     try clear p2
     try clear c4
     try clear c4b0
     try clear c5
     try clear p6
     try clear c7
     try clear c7b0
     try clear c8
     try clear c8b0
     try clear c9
     try clear c9b0
     try clear c9b1
     try clear hx101_0
     try clear p101
     try clear p2
     try clear q101
     obtain ⟨kq, x6_5, rfl, HA, HJ5, ⟨mc5, rfl⟩⟩ := hcut
     cases kq with
     | zero => exact absurd HA.out (by simp [gangwayref08_At.j2])
     | succ kj5 =>
      have H := HA.out
      clear HA
      simp only [gangwayref08_At.j2] at H
      by_cases c10 : x6_5 = (l0.length : Int)
      ·
       rw [if_pos c10] at H
       have c10b0 : (x6_5 == (l0.length : Int)) = true := beq_iff_eq.mpr c10
       have c10b1 : (x6_5 != (l0.length : Int)) = false := bne_eq_false_iff_eq.mpr c10
       clear c10
       simp only [Option.some.injEq, Prod.mk.injEq] at H
       obtain ⟨rfl, rfl⟩ := H
       go_wp2
       go_ret2
       exact ⟨by first | rfl | (simp; done) | (simp [*]; done), by repeat (first | exact Drawn0.refl _ | apply Drawn0.step)⟩
      ·
       rw [if_neg c10] at H
       have c10b0 : (x6_5 == (l0.length : Int)) = false := beq_eq_false_iff_ne.mpr c10
       have c10b1 : (x6_5 != (l0.length : Int)) = true := bne_iff_ne.mpr c10
       by_cases c11 : (wrap64 (x6_5 - a1)) > 255
       ·
        rw [if_pos c11] at H
        have c11b0 : decide (255 < (wrap64 (x6_5 - a1))) = true := decide_eq_true c11
        clear c11
        simp only [Option.some.injEq, Prod.mk.injEq] at H
        obtain ⟨rfl, rfl⟩ := H
        go_wp2
        go_ret2
        exact ⟨by first | rfl | (simp; done) | (simp [*]; done), by repeat (first | exact Drawn0.refl _ | apply Drawn0.step)⟩
       ·
        rw [if_neg c11] at H
        have c11b0 : decide (255 < (wrap64 (x6_5 - a1))) = false := decide_eq_false c11
        clear c11
        by_cases c12 : 0 ≤ a1
        ·
         rw [if_pos c12] at H
         have c12b0 := eq_true c12
         have c12b1 : decide (0 ≤ a1) = true := decide_eq_true c12
         clear c12
         by_cases c13 : a1 ≤ x6_5
         ·
          rw [if_pos c13] at H
          have c13b0 := eq_true c13
          have c13b1 : decide (a1 ≤ x6_5) = true := decide_eq_true c13
          clear c13
          by_cases c14 : x6_5 ≤ (l0.length : Int)
          ·
           rw [if_pos c14] at H
           have c14b0 := eq_true c14
           have c14b1 : decide (x6_5 ≤ (l0.length : Int)) = true := decide_eq_true c14
           clear c14
           simp only [Option.some.injEq, Prod.mk.injEq] at H
           obtain ⟨rfl, rfl⟩ := H
           obtain ⟨i015, hi015, _, hsz15, _⟩ := info_parts info5
           obtain ⟨A15, hcut15, hA15, hC15⟩ := print_mid_of (P := Try.prog) (Value.int .u8) 0 24 5 .i64 .i64 Try.underlying24 hi015 hsz15 A0 c0 l0 a1 x6_5 (of_decide_eq_true (by first | (with_reducible assumption) | assumption)) (by first | omega | exact of_decide_eq_true (by first | (with_reducible assumption) | assumption)) (of_decide_eq_true (by first | (with_reducible assumption) | assumption)) HC0.out
           have HR102 := Aside0.mk (Kd.C_of_reads (h1 := fun _ => rfl) (hA15 _ (Kd.reads_of_C HR0.out)))
           have HC102 := Aside0.mk hC15
           clear hA15 hC15 hi015 hsz15
           have hcv16 := Kd.C_string (P := Try.prog) (A := A15) (c := (c0 - a1.toNat)) Try.underlying24 Try.underlying5 Try.underlying9 HR102.out
           have hcv17 := fun (m_ : Nat) => Kd.C_string (P := Try.prog) (A := A15) (c := (c0 - a1.toNat)) Try.underlying24 Try.underlying5 Try.underlying9 (Kd.C_drewN HR102.out m_)
           have hcv18 := hcv16
           have hcv19 := hcv17
           (try simp only [List.length_drop, List.length_take] at hcv18)
           (try simp only [List.length_drop, List.length_take] at hcv19)
           (try (have hcl20 : ((l0.take (x6_5 : Int).toNat).drop (a1 : Int).toNat).length = (x6_5 : Int).toNat - (a1 : Int).toNat := by (rw [List.length_drop, List.length_take]; simp only [decide_eq_true_eq, eq_iff_iff, iff_true] at *; omega)))
           have hcm20 := hcv16
           have hcn20 := hcv17
           (try rw [hcl20] at hcm20)
           (try simp only [hcl20] at hcn20)
           (try clear hcl20)
           go_wp2
           go_ret2
           exact ⟨by first | rfl | (simp; done) | (simp [*]; done), by repeat (first | exact Drawn0.refl _ | apply Drawn0.step)⟩
          ·
           rw [if_neg c14] at H
           exact absurd H (by simp)
         ·
          rw [if_neg c13] at H
          exact absurd H (by simp)
        ·
         rw [if_neg c12] at H
         exact absurd H (by simp)
end Go.Proofs.Ytejdnanhnkjaoaa.G
end
section
namespace Go.Proofs.Ytejdnanhnkjaoaa.G
open Go.RowKit Go.Proofs.YtejdnanhnkjaoaaW.PrintWords Go.Proofs.YtejdnanhnkjaoaaW.PrintLast Go.Proofs.YtejdnanhnkjaoaaW.PrintMore
attribute [local go_sem] max2_int min2_int max_two min_two max_three min_three max_four min_four   -- for this text's walks alone
set_option linter.unusedVariables false
set_option linter.unusedSimpArgs false
def gangwayref08_place.l0 : Nat → List ByteArray → ByteArray → Int → Option (Int)
 | 0, _, _, _ => none
 | k + 1, x0, x1, x5 => if x5 < (x0.length : Int) then (if 0 ≤ x5 then (if (rdOf ByteArray.empty x0 x5).toList = x1.toList then (some x5) else (gangwayref08_place.l0 k x0 x1 (wrap64 (x5 + 1)))) else (none)) else (some x5)
def gangwayref08_place.f (k : Nat) (l0 : List ByteArray) (a1 : ByteArray) : Option (Int) := gangwayref08_place.l0 k l0 a1 0
theorem gangwayref08_place.mono_l : ∀ k, (∀ y0 y1 y2, LeO (gangwayref08_place.l0 k y0 y1 y2) (gangwayref08_place.l0 (k + 1) y0 y1 y2))
 | 0 => fun _ _ _ r h => by simp [gangwayref08_place.l0] at h
 | k + 1 => by
  have ih0 := gangwayref08_place.mono_l k
  ·
   intro y0 y1 y2
   unfold gangwayref08_place.l0
   repeat' first
   | (with_reducible exact ih0 _ _ _)
   | (with_reducible exact LeO.refl _)
   | (with_reducible exact LeO.none _)
   | (with_reducible refine LeO.ite ?_ ?_)
   | (with_reducible refine LeO.bind ?_ (fun _ => ?_))
   | exact ih0 _ _ _
   | exact LeO.none _
   | refine LeO.ite ?_ ?_
   | refine LeO.bind ?_ (fun _ => ?_)
theorem gangwayref08_place.mono : ∀ a0 a1 k, LeO (gangwayref08_place.f k a0 a1) (gangwayref08_place.f (k + 1) a0 a1) := by
 intro a0 a1 k
 have ih0 := gangwayref08_place.mono_l k
 unfold gangwayref08_place.f
 repeat' first
   | (with_reducible exact ih0 _ _ _)
   | (with_reducible exact LeO.refl _)
   | (with_reducible exact LeO.none _)
   | (with_reducible refine LeO.ite ?_ ?_)
   | (with_reducible refine LeO.bind ?_ (fun _ => ?_))
   | exact ih0 _ _ _
   | exact LeO.none _
   | refine LeO.ite ?_ ?_
   | refine LeO.bind ?_ (fun _ => ?_)
set_option maxHeartbeats 8000000 in
set_option maxRecDepth 100000 in
theorem gangwayref08_place.calls (k : Nat) (A0 : Option Addr) (c0 : Nat) (l0 : List ByteArray) (a1 : ByteArray) (r : Int) (w : World) (hr0 : Kd.C Kd.string w A0 l0.length l0) (hc0 : l0.length ≤ c0) (h : gangwayref08_place.f k l0 a1 = some r) :
  Calls Try.prog 30 #[.slice A0 l0.length c0, .string a1] w fun e w' => e = .returned (.int .i64 r) ∧ Drawn0 w w' := by
 have HR0 := Aside0.mk hr0
 have HC0 := Aside0.mk hc0
 clear hr0 hc0
 have H : (gangwayref08_place.l0 k l0 a1 0) = some r := h
 clear h
 have H' := Aside0.mk H
 clear H
 go_enter Try.func30, Try.ntmps30
 go_wp2
 go_loopg [5] k (fun kq v5 w' => ∃ (x5_1 : Int), v5 = .int .i64 x5_1 ∧ Aside0 (gangwayref08_place.l0 kq l0 a1 x5_1 = some r) ∧ Aside0 (kq ≤ k) ∧ Drawn0 w w')
 case atStart => exact ⟨(0), (by first | rfl | (simp; done) | (simp [*]; done) | (simp [show ∀ l_ : List UInt8, (l_ != []) = !l_.isEmpty from fun l_ => by cases l_ <;> rfl]; done) | (congr 1; refine congr (congrArg (Go.bits _ _) ?_) ?_ <;> omega)), H', ⟨Nat.le_refl _⟩, by repeat (first | exact Drawn0.refl _ | apply Drawn0.step)⟩
 case round =>
  clear H'
  try clear p2
  obtain ⟨x5_1, rfl, HA, HK1, ⟨m1, rfl⟩⟩ := hrel
  cases gk with
  | zero => exact absurd HA.out (by simp [gangwayref08_place.l0])
  | succ k1 =>
   have H := HA.out
   clear HA
   simp only [gangwayref08_place.l0] at H
   by_cases c3 : x5_1 < (l0.length : Int)
   ·
    rw [if_pos c3] at H
    have c3b0 : decide (x5_1 < (l0.length : Int)) = true := decide_eq_true c3
    clear c3
    by_cases c4 : 0 ≤ x5_1
    ·
     rw [if_pos c4] at H
     have c4b0 : decide (0 ≤ x5_1) = true := decide_eq_true c4
     clear c4
     by_cases c5 : (rdOf ByteArray.empty l0 x5_1).toList = a1.toList
     ·
      rw [if_pos c5] at H
      have c5b0 : ((rdOf ByteArray.empty l0 x5_1).toList == a1.toList) = true := beq_iff_eq.mpr c5
      have c5b1 : ((rdOf ByteArray.empty l0 x5_1).toList != a1.toList) = false := bne_eq_false_iff_eq.mpr c5
      clear c5
      obtain rfl := Option.some.inj H
      have p101 : 0 ≤ (x5_1 : Int) := of_decide_eq_true (by first | (with_reducible assumption) | assumption)
      have q101 : x5_1 < (l0.length : Int) := of_decide_eq_true (by first | (with_reducible assumption) | assumption)
      obtain ⟨ad101, e101, hx101_0⟩ := Kd.at_string HR0.out x5_1 p101 q101
      cases e101
      replace p101 := eq_true p101
      replace q101 := eq_true q101
      go_wp2
      go_ret
      exact ⟨by first | rfl | (simp; done) | (simp [*]; done), by repeat (first | exact Drawn0.refl _ | apply Drawn0.step)⟩
     ·
      rw [if_neg c5] at H
      have c5b0 : ((rdOf ByteArray.empty l0 x5_1).toList == a1.toList) = false := beq_eq_false_iff_ne.mpr c5
      have c5b1 : ((rdOf ByteArray.empty l0 x5_1).toList != a1.toList) = true := bne_iff_ne.mpr c5
      have H' := Aside0.mk H
      clear H
      have p101 : 0 ≤ (x5_1 : Int) := of_decide_eq_true (by first | (with_reducible assumption) | assumption)
      have q101 : x5_1 < (l0.length : Int) := of_decide_eq_true (by first | (with_reducible assumption) | assumption)
      obtain ⟨ad101, e101, hx101_0⟩ := Kd.at_string HR0.out x5_1 p101 q101
      cases e101
      replace p101 := eq_true p101
      replace q101 := eq_true q101
      go_wp2
      go_roundg k1
      case measure => have := HK1.out; omega
      case rel => exact ⟨(wrap64 (x5_1 + 1)), (by first | rfl | (simp; done) | (simp [*]; done) | (simp [show ∀ l_ : List UInt8, (l_ != []) = !l_.isEmpty from fun l_ => by cases l_ <;> rfl]; done) | (congr 1; refine congr (congrArg (Go.bits _ _) ?_) ?_ <;> omega)), H', ⟨by have := HK1.out; omega⟩, by repeat (first | exact Drawn0.refl _ | apply Drawn0.step)⟩
    ·
     rw [if_neg c4] at H
     exact absurd H (by simp)
   ·
    rw [if_neg c3] at H
    have c3b0 : decide (x5_1 < (l0.length : Int)) = false := decide_eq_false c3
    clear c3
    obtain rfl := Option.some.inj H
    go_wp2
    go_ret
    exact ⟨by first | rfl | (simp; done) | (simp [*]; done), by repeat (first | exact Drawn0.refl _ | apply Drawn0.step)⟩
end Go.Proofs.Ytejdnanhnkjaoaa.G
end
section
namespace Go.Proofs.Ytejdnanhnkjaoaa.G
open Go.RowKit Go.Proofs.YtejdnanhnkjaoaaW.PrintWords Go.Proofs.YtejdnanhnkjaoaaW.PrintLast Go.Proofs.YtejdnanhnkjaoaaW.PrintMore
attribute [local go_sem] max2_int min2_int max_two min_two max_three min_three max_four min_four   -- for this text's walks alone
set_option linter.unusedVariables false
set_option linter.unusedSimpArgs false
def gangwayref08_zero.l0 : Nat → ByteArray → Int → Option (Bool)
 | 0, _, _ => none
 | k + 1, x0, x3 => if x3 < (x0.size : Int) then (if 0 ≤ x3 then (if (bt x0 x3) = 0 then (some true) else (gangwayref08_zero.l0 k x0 (wrap64 (x3 + 1)))) else (none)) else (some false)
def gangwayref08_zero.f (k : Nat) (a0 : ByteArray) : Option (Bool) := gangwayref08_zero.l0 k a0 0
theorem gangwayref08_zero.mono_l : ∀ k, (∀ y0 y1, LeO (gangwayref08_zero.l0 k y0 y1) (gangwayref08_zero.l0 (k + 1) y0 y1))
 | 0 => fun _ _ r h => by simp [gangwayref08_zero.l0] at h
 | k + 1 => by
  have ih0 := gangwayref08_zero.mono_l k
  ·
   intro y0 y1
   unfold gangwayref08_zero.l0
   repeat' first
   | (with_reducible exact ih0 _ _)
   | (with_reducible exact LeO.refl _)
   | (with_reducible exact LeO.none _)
   | (with_reducible refine LeO.ite ?_ ?_)
   | (with_reducible refine LeO.bind ?_ (fun _ => ?_))
   | exact ih0 _ _
   | exact LeO.none _
   | refine LeO.ite ?_ ?_
   | refine LeO.bind ?_ (fun _ => ?_)
theorem gangwayref08_zero.mono : ∀ a0 k, LeO (gangwayref08_zero.f k a0) (gangwayref08_zero.f (k + 1) a0) := by
 intro a0 k
 have ih0 := gangwayref08_zero.mono_l k
 unfold gangwayref08_zero.f
 repeat' first
   | (with_reducible exact ih0 _ _)
   | (with_reducible exact LeO.refl _)
   | (with_reducible exact LeO.none _)
   | (with_reducible refine LeO.ite ?_ ?_)
   | (with_reducible refine LeO.bind ?_ (fun _ => ?_))
   | exact ih0 _ _
   | exact LeO.none _
   | refine LeO.ite ?_ ?_
   | refine LeO.bind ?_ (fun _ => ?_)
set_option maxHeartbeats 8000000 in
set_option maxRecDepth 100000 in
theorem gangwayref08_zero.calls (k : Nat) (a0 : ByteArray) (r : Bool) (w : World) (h : gangwayref08_zero.f k a0 = some r) :
  Calls Try.prog 29 #[.string a0] w fun e w' => e = .returned (.bool r) ∧ Drawn0 w w' := by
 have H : (gangwayref08_zero.l0 k a0 0) = some r := h
 clear h
 have H' := Aside0.mk H
 clear H
 go_enter Try.func29, Try.ntmps29
 go_wp2
 go_loopg [3] k (fun kq v3 w' => ∃ (x3_1 : Int), v3 = .int .i64 x3_1 ∧ Aside0 (gangwayref08_zero.l0 kq a0 x3_1 = some r) ∧ Aside0 (kq ≤ k) ∧ Drawn0 w w')
 case atStart => exact ⟨(0), (by first | rfl | (simp; done) | (simp [*]; done) | (simp [show ∀ l_ : List UInt8, (l_ != []) = !l_.isEmpty from fun l_ => by cases l_ <;> rfl]; done) | (congr 1; refine congr (congrArg (Go.bits _ _) ?_) ?_ <;> omega)), H', ⟨Nat.le_refl _⟩, by repeat (first | exact Drawn0.refl _ | apply Drawn0.step)⟩
 case round =>
  clear H'
  obtain ⟨x3_1, rfl, HA, HK1, ⟨m1, rfl⟩⟩ := hrel
  cases gk with
  | zero => exact absurd HA.out (by simp [gangwayref08_zero.l0])
  | succ k1 =>
   have H := HA.out
   clear HA
   simp only [gangwayref08_zero.l0] at H
   by_cases c2 : x3_1 < (a0.size : Int)
   ·
    rw [if_pos c2] at H
    have c2b0 : decide (x3_1 < (a0.size : Int)) = true := decide_eq_true c2
    clear c2
    by_cases c3 : 0 ≤ x3_1
    ·
     rw [if_pos c3] at H
     have c3b0 : decide (0 ≤ x3_1) = true := decide_eq_true c3
     clear c3
     by_cases c5 : (bt a0 x3_1) = 0
     ·
      rw [if_pos c5] at H
      have c5b0 : ((bt a0 x3_1) == 0) = true := beq_iff_eq.mpr c5
      have c5b1 : ((bt a0 x3_1) != 0) = false := bne_eq_false_iff_eq.mpr c5
      clear c5
      obtain rfl := Option.some.inj H
      have p4 : 0 ≤ (x3_1 : Int) := of_decide_eq_true (by first | (with_reducible assumption) | assumption)
      have q4 : x3_1 < (a0.size : Int) := of_decide_eq_true (by first | (with_reducible assumption) | assumption)
      have hx4 := bt_at a0 x3_1
      replace p4 := eq_true p4
      replace q4 := eq_true q4
      go_wp2
      go_ret
      exact ⟨by first | rfl | (simp; done) | (simp [*]; done), by repeat (first | exact Drawn0.refl _ | apply Drawn0.step)⟩
     ·
      rw [if_neg c5] at H
      have c5b0 : ((bt a0 x3_1) == 0) = false := beq_eq_false_iff_ne.mpr c5
      have c5b1 : ((bt a0 x3_1) != 0) = true := bne_iff_ne.mpr c5
      have H' := Aside0.mk H
      clear H
      have p4 : 0 ≤ (x3_1 : Int) := of_decide_eq_true (by first | (with_reducible assumption) | assumption)
      have q4 : x3_1 < (a0.size : Int) := of_decide_eq_true (by first | (with_reducible assumption) | assumption)
      have hx4 := bt_at a0 x3_1
      replace p4 := eq_true p4
      replace q4 := eq_true q4
      go_wp2
      go_roundg k1
      case measure => have := HK1.out; omega
      case rel => exact ⟨(wrap64 (x3_1 + 1)), (by first | rfl | (simp; done) | (simp [*]; done) | (simp [show ∀ l_ : List UInt8, (l_ != []) = !l_.isEmpty from fun l_ => by cases l_ <;> rfl]; done) | (congr 1; refine congr (congrArg (Go.bits _ _) ?_) ?_ <;> omega)), H', ⟨by have := HK1.out; omega⟩, by repeat (first | exact Drawn0.refl _ | apply Drawn0.step)⟩
    ·
     rw [if_neg c3] at H
     exact absurd H (by simp)
   ·
    rw [if_neg c2] at H
    have c2b0 : decide (x3_1 < (a0.size : Int)) = false := decide_eq_false c2
    clear c2
    obtain rfl := Option.some.inj H
    go_wp2
    go_ret
    exact ⟨by first | rfl | (simp; done) | (simp [*]; done), by repeat (first | exact Drawn0.refl _ | apply Drawn0.step)⟩
end Go.Proofs.Ytejdnanhnkjaoaa.G
end
section
namespace Go.Proofs.Ytejdnanhnkjaoaa.G
open Go.RowKit Go.Proofs.YtejdnanhnkjaoaaW.PrintWords Go.Proofs.YtejdnanhnkjaoaaW.PrintLast Go.Proofs.YtejdnanhnkjaoaaW.PrintMore
attribute [local go_sem] max2_int min2_int max_two min_two max_three min_three max_four min_four   -- for this text's walks alone
set_option linter.unusedVariables false
set_option linter.unusedSimpArgs false
mutual
def gangwayref08_Strings.l0 : Nat → List ByteArray → Bool → Int → Option (List Int × List Int × Int)
 | 0, _, _, _ => none
 | k + 1, x0, x5, x6 => if x6 < (x0.length : Int) then (if 0 ≤ x6 then ((gangwayref08_zero.f k (rdOf ByteArray.empty x0 x6)).bind fun t102 => (if t102 = true then (some (([] : List Int), ([] : List Int), 80)) else (if x5 = true then (gangwayref08_Strings.l0 k x0 true (wrap64 (x6 + 1))) else (gangwayref08_Strings.l0 k x0 (decide (((rdOf ByteArray.empty x0 x6).size : Int) > 255)) (wrap64 (x6 + 1)))))) else (none)) else (if x5 = true then (some (([] : List Int), ([] : List Int), 6)) else (gangwayref08_Strings.l1 k x0 (([0] : List Int)) ([] : List Int) ([] : List ByteArray) ([] : List Int) 0))
def gangwayref08_Strings.l1 : Nat → List ByteArray → List Int → List Int → List ByteArray → List Int → Int → Option (List Int × List Int × Int)
 | 0, _, _, _, _, _, _ => none
 | k + 1, x0, x7, x8, x9, x10, x11 => if x11 < (x0.length : Int) then (if 0 ≤ x11 then (if (rdOf ByteArray.empty x0 x11).toList = ([] : List UInt8) then (if x8.length < 17592186044416 then (gangwayref08_Strings.l1 k x0 x7 (x8 ++ [0]) x9 x10 (wrap64 (x11 + 1))) else (none)) else ((gangwayref08_place.f k x9 (rdOf ByteArray.empty x0 x11)).bind fun t112 => (if t112 = (x9.length : Int) then (if x9.length < 8796093022208 then (if x10.length < 17592186044416 then ((some (x10 ++ [(x7.length : Int)] : List Int)).bind fun y117 => (if x7.length + (rdOf ByteArray.empty x0 x11).size < 140737488355328 then ((some (x7 ++ bytesOf (rdOf ByteArray.empty x0 x11) : List Int)).bind fun y121 => (if y121.length < 140737488355328 then ((some (y121 ++ [0] : List Int)).bind fun y124 => (if (y124.length : Int) > 1048576 then (some (([] : List Int), ([] : List Int), 6)) else (if 0 ≤ t112 then (if t112 < (y117.length : Int) then (if x8.length < 17592186044416 then (gangwayref08_Strings.l1 k x0 y124 (x8 ++ [rd y117 t112]) (x9 ++ [rdOf ByteArray.empty x0 x11]) y117 (wrap64 (x11 + 1))) else (none)) else (none)) else (none)))) else (none))) else (none))) else (none)) else (none)) else (if 0 ≤ t112 then (if t112 < (x10.length : Int) then (if x8.length < 17592186044416 then (gangwayref08_Strings.l1 k x0 x7 (x8 ++ [rd x10 t112]) x9 x10 (wrap64 (x11 + 1))) else (none)) else (none)) else (none))))) else (none)) else (some (x7, x8, 0))
end
def gangwayref08_Strings.f (k : Nat) (l0 : List ByteArray) : Option (List Int × List Int × Int) := gangwayref08_Strings.l0 k l0 false 0
theorem gangwayref08_Strings.mono_l : ∀ k, (∀ y0 y1 y2, LeO (gangwayref08_Strings.l0 k y0 y1 y2) (gangwayref08_Strings.l0 (k + 1) y0 y1 y2)) ∧ (∀ y0 y1 y2 y3 y4 y5, LeO (gangwayref08_Strings.l1 k y0 y1 y2 y3 y4 y5) (gangwayref08_Strings.l1 (k + 1) y0 y1 y2 y3 y4 y5))
 | 0 => ⟨fun _ _ _ r h => by simp [gangwayref08_Strings.l0] at h, fun _ _ _ _ _ _ r h => by simp [gangwayref08_Strings.l1] at h⟩
 | k + 1 => by
  obtain ⟨ih0, ih1⟩ := gangwayref08_Strings.mono_l k
  refine ⟨?_, ?_⟩
  ·
   intro y0 y1 y2
   unfold gangwayref08_Strings.l0
   repeat' first
   | (with_reducible exact ih0 _ _ _)
   | (with_reducible exact ih1 _ _ _ _ _ _)
   | (with_reducible exact gangwayref08_place.mono _ _ _)
   | (with_reducible exact gangwayref08_zero.mono _ _)
   | (with_reducible exact LeO.refl _)
   | (with_reducible exact LeO.none _)
   | (with_reducible refine LeO.ite ?_ ?_)
   | (with_reducible refine LeO.bind ?_ (fun _ => ?_))
   | exact ih0 _ _ _
   | exact ih1 _ _ _ _ _ _
   | exact gangwayref08_place.mono _ _ _
   | exact gangwayref08_zero.mono _ _
   | exact LeO.none _
   | refine LeO.ite ?_ ?_
   | refine LeO.bind ?_ (fun _ => ?_)
  ·
   intro y0 y1 y2 y3 y4 y5
   unfold gangwayref08_Strings.l1
   repeat' first
   | (with_reducible exact ih0 _ _ _)
   | (with_reducible exact ih1 _ _ _ _ _ _)
   | (with_reducible exact gangwayref08_place.mono _ _ _)
   | (with_reducible exact gangwayref08_zero.mono _ _)
   | (with_reducible exact LeO.refl _)
   | (with_reducible exact LeO.none _)
   | (with_reducible refine LeO.ite ?_ ?_)
   | (with_reducible refine LeO.bind ?_ (fun _ => ?_))
   | exact ih0 _ _ _
   | exact ih1 _ _ _ _ _ _
   | exact gangwayref08_place.mono _ _ _
   | exact gangwayref08_zero.mono _ _
   | exact LeO.none _
   | refine LeO.ite ?_ ?_
   | refine LeO.bind ?_ (fun _ => ?_)
theorem gangwayref08_Strings.mono : ∀ a0 k, LeO (gangwayref08_Strings.f k a0) (gangwayref08_Strings.f (k + 1) a0) := by
 intro a0 k
 obtain ⟨ih0, ih1⟩ := gangwayref08_Strings.mono_l k
 unfold gangwayref08_Strings.f
 repeat' first
   | (with_reducible exact ih0 _ _ _)
   | (with_reducible exact ih1 _ _ _ _ _ _)
   | (with_reducible exact gangwayref08_place.mono _ _ _)
   | (with_reducible exact gangwayref08_zero.mono _ _)
   | (with_reducible exact LeO.refl _)
   | (with_reducible exact LeO.none _)
   | (with_reducible refine LeO.ite ?_ ?_)
   | (with_reducible refine LeO.bind ?_ (fun _ => ?_))
   | exact ih0 _ _ _
   | exact ih1 _ _ _ _ _ _
   | exact gangwayref08_place.mono _ _ _
   | exact gangwayref08_zero.mono _ _
   | exact LeO.none _
   | refine LeO.ite ?_ ?_
   | refine LeO.bind ?_ (fun _ => ?_)
set_option maxHeartbeats 8000000 in
set_option maxRecDepth 100000 in
theorem gangwayref08_Strings.calls (k : Nat) (A0 : Option Addr) (c0 : Nat) (l0 : List ByteArray) (r1 : List Int) (r2 : List Int) (r3 : Int) (w : World) (hr0 : Kd.C Kd.string w A0 l0.length l0) (hc0 : l0.length ≤ c0) (h : gangwayref08_Strings.f k l0 = some (r1, r2, r3)) :
  Calls Try.prog 13 #[.slice A0 l0.length c0] w fun e w' => ∃ v0_ v1_ : Value, e = .returned (.tuple #[v0_, v1_, .int .i64 r3]) ∧ Kd.R (Kd.int .u8) 5 w' w.heap.size (fun _ => True) v0_ r1 ∧ Kd.R (Kd.int .i64) 3 w' w.heap.size (fun _ => True) v1_ r2 ∧ Below w.heap.size w w' := by
 have HR0 := Aside0.mk hr0
 have HC0 := Aside0.mk hc0
 clear hr0 hc0
 have HB := Aside0.mk (Below.refl w.heap.size w)
 have H : (gangwayref08_Strings.l0 k l0 false 0) = some (r1, r2, r3) := h
 clear h
 have H' := Aside0.mk H
 clear H
 go_enter Try.func13, Try.ntmps13
 go_wp2
 go_loopg [5, 6] k (fun kq v5 v6 w' => ∃ (x5_1 : Bool) (x6_1 : Int), v5 = .bool x5_1 ∧ v6 = .int .i64 x6_1 ∧ Aside0 (gangwayref08_Strings.l0 kq l0 x5_1 x6_1 = some (r1, r2, r3)) ∧ Aside0 (kq ≤ k) ∧ Aside0 (Below w.heap.size w w'))
 case atStart => exact ⟨(false), (0), (by first | rfl | (simp; done) | (simp [*]; done) | (simp [show ∀ l_ : List UInt8, (l_ != []) = !l_.isEmpty from fun l_ => by cases l_ <;> rfl]; done) | (congr 1; refine congr (congrArg (Go.bits _ _) ?_) ?_ <;> omega)), (by first | rfl | (simp; done) | (simp [*]; done) | (simp [show ∀ l_ : List UInt8, (l_ != []) = !l_.isEmpty from fun l_ => by cases l_ <;> rfl]; done) | (congr 1; refine congr (congrArg (Go.bits _ _) ?_) ?_ <;> omega)), H', ⟨Nat.le_refl _⟩, ⟨by repeat (with_reducible first | exact HB.out | apply below_alloc | apply pw_below_drewN | apply below_drew1)⟩⟩
 case round =>
  clear H'
  try clear c1
  obtain ⟨x5_1, x6_1, rfl, rfl, HA, HK1, HB⟩ := hrel
  cases gk with
  | zero => exact absurd HA.out (by simp [gangwayref08_Strings.l0])
  | succ k1 =>
   have H := HA.out
   clear HA
   simp only [gangwayref08_Strings.l0] at H
   by_cases c2 : x6_1 < (l0.length : Int)
   ·
    rw [if_pos c2] at H
    have c2b0 : decide (x6_1 < (l0.length : Int)) = true := decide_eq_true c2
    clear c2
    by_cases c3 : 0 ≤ x6_1
    ·
     rw [if_pos c3] at H
     have c3b0 : decide (0 ≤ x6_1) = true := decide_eq_true c3
     clear c3
     replace H := Option.bind_eq_some_iff.mp H
     obtain ⟨t102, A40, H⟩ := H
     replace H : (if t102 = true then (some (([] : List Int), ([] : List Int), 80)) else (if x5_1 = true then (gangwayref08_Strings.l0 k1 l0 true (wrap64 (x6_1 + 1))) else (gangwayref08_Strings.l0 k1 l0 (decide (((rdOf ByteArray.empty l0 x6_1).size : Int) > 255)) (wrap64 (x6_1 + 1))))) = some (r1, r2, r3) := H
     have A4 := Aside0.mk A40
     clear A40
     by_cases c5 : t102 = true
     ·
      subst c5
      have H1 : (some (([] : List Int), ([] : List Int), 80)) = some (r1, r2, r3) := by rw [if_pos rfl] at H; exact H
      clear H
      have H := H1
      clear H1
      simp only [Option.some.injEq, Prod.mk.injEq] at H
      obtain ⟨rfl, rfl, rfl⟩ := H
      have p101 : 0 ≤ (x6_1 : Int) := of_decide_eq_true (by first | (with_reducible assumption) | assumption)
      have q101 : x6_1 < (l0.length : Int) := of_decide_eq_true (by first | (with_reducible assumption) | assumption)
      obtain ⟨ad101, e101, hx101_0⟩ := Kd.at_string HR0.out x6_1 p101 q101
      cases e101
      replace hx101_0 := (HB.out.cell (World.block_lt_of_cell? w _ hx101_0)).trans hx101_0
      replace p101 := eq_true p101
      replace q101 := eq_true q101
      go_wp2_with (first | ((with_reducible refine gate_callee (f := 29) rfl ?_); refine goesL_ (some 23) rfl rfl Try.func29 (by kernel_rfl) rfl #[.string (rdOf ByteArray.empty l0 x6_1)] rfl (by (try simp only [List.map_toArray, List.map_cons, List.map_nil]); first | done | rfl | (simp only [List.length_drop, List.length_take]; rfl)) ?_; (with_reducible refine (gangwayref08_zero.calls k1 (rdOf ByteArray.empty l0 x6_1) true _ A4.out).mono ?_); rintro e w' ⟨rfl, ⟨nd, rfl⟩⟩; refine ⟨_, rfl, ?_⟩))
      go_ret3
      exact ⟨_, _, rfl, by first | exact Kd.R_nil _ _ _ _ _ | exact Kd.N_nil _ _ _ _ _ | exact Kd.V_nil _ _ _ _ _ | exact Kd.Q_nil _ _ _ _ _ | exact Kd.S_nil _ _ _ _ _, by first | exact Kd.R_nil _ _ _ _ _ | exact Kd.N_nil _ _ _ _ _ | exact Kd.V_nil _ _ _ _ _ | exact Kd.Q_nil _ _ _ _ _ | exact Kd.S_nil _ _ _ _ _, by repeat (with_reducible first | exact HB.out | apply below_alloc | apply pw_below_drewN | apply below_drew1)⟩
     ·
      replace c5 := Bool.eq_false_iff.mpr c5
      subst c5
      have H1 : (if x5_1 = true then (gangwayref08_Strings.l0 k1 l0 true (wrap64 (x6_1 + 1))) else (gangwayref08_Strings.l0 k1 l0 (decide (((rdOf ByteArray.empty l0 x6_1).size : Int) > 255)) (wrap64 (x6_1 + 1)))) = some (r1, r2, r3) := by rw [if_neg (show ¬ (false = true) by decide)] at H; exact H
      clear H
      have H := H1
      clear H1
      by_cases c6 : x5_1 = true
      ·
       subst c6
       have H1 : (gangwayref08_Strings.l0 k1 l0 true (wrap64 (x6_1 + 1))) = some (r1, r2, r3) := by rw [if_pos rfl] at H; exact H
       clear H
       have H := H1
       clear H1
       have H' := Aside0.mk H
       clear H
       have p101 : 0 ≤ (x6_1 : Int) := of_decide_eq_true (by first | (with_reducible assumption) | assumption)
       have q101 : x6_1 < (l0.length : Int) := of_decide_eq_true (by first | (with_reducible assumption) | assumption)
       obtain ⟨ad101, e101, hx101_0⟩ := Kd.at_string HR0.out x6_1 p101 q101
       cases e101
       replace hx101_0 := (HB.out.cell (World.block_lt_of_cell? w _ hx101_0)).trans hx101_0
       replace p101 := eq_true p101
       replace q101 := eq_true q101
       go_wp2_with (first | ((with_reducible refine gate_callee (f := 29) rfl ?_); refine goesL_ (some 23) rfl rfl Try.func29 (by kernel_rfl) rfl #[.string (rdOf ByteArray.empty l0 x6_1)] rfl (by (try simp only [List.map_toArray, List.map_cons, List.map_nil]); first | done | rfl | (simp only [List.length_drop, List.length_take]; rfl)) ?_; (with_reducible refine (gangwayref08_zero.calls k1 (rdOf ByteArray.empty l0 x6_1) false _ A4.out).mono ?_); rintro e w' ⟨rfl, ⟨nd, rfl⟩⟩; refine ⟨_, rfl, ?_⟩))
       go_roundg k1
       case measure => have := HK1.out; omega
       case rel => exact ⟨(true), (wrap64 (x6_1 + 1)), (by first | rfl | (simp; done) | (simp [*]; done) | (simp [show ∀ l_ : List UInt8, (l_ != []) = !l_.isEmpty from fun l_ => by cases l_ <;> rfl]; done) | (congr 1; refine congr (congrArg (Go.bits _ _) ?_) ?_ <;> omega)), (by first | rfl | (simp; done) | (simp [*]; done) | (simp [show ∀ l_ : List UInt8, (l_ != []) = !l_.isEmpty from fun l_ => by cases l_ <;> rfl]; done) | (congr 1; refine congr (congrArg (Go.bits _ _) ?_) ?_ <;> omega)), H', ⟨by have := HK1.out; omega⟩, ⟨by repeat (with_reducible first | exact HB.out | apply below_alloc | apply pw_below_drewN | apply below_drew1)⟩⟩
      ·
       replace c6 := Bool.eq_false_iff.mpr c6
       subst c6
       have H1 : (gangwayref08_Strings.l0 k1 l0 (decide (((rdOf ByteArray.empty l0 x6_1).size : Int) > 255)) (wrap64 (x6_1 + 1))) = some (r1, r2, r3) := by rw [if_neg (show ¬ (false = true) by decide)] at H; exact H
       clear H
       have H := H1
       clear H1
       have H' := Aside0.mk H
       clear H
       have p101 : 0 ≤ (x6_1 : Int) := of_decide_eq_true (by first | (with_reducible assumption) | assumption)
       have q101 : x6_1 < (l0.length : Int) := of_decide_eq_true (by first | (with_reducible assumption) | assumption)
       obtain ⟨ad101, e101, hx101_0⟩ := Kd.at_string HR0.out x6_1 p101 q101
       cases e101
       replace hx101_0 := (HB.out.cell (World.block_lt_of_cell? w _ hx101_0)).trans hx101_0
       replace p101 := eq_true p101
       replace q101 := eq_true q101
       go_wp2_with (first | ((with_reducible refine gate_callee (f := 29) rfl ?_); refine goesL_ (some 23) rfl rfl Try.func29 (by kernel_rfl) rfl #[.string (rdOf ByteArray.empty l0 x6_1)] rfl (by (try simp only [List.map_toArray, List.map_cons, List.map_nil]); first | done | rfl | (simp only [List.length_drop, List.length_take]; rfl)) ?_; (with_reducible refine (gangwayref08_zero.calls k1 (rdOf ByteArray.empty l0 x6_1) false _ A4.out).mono ?_); rintro e w' ⟨rfl, ⟨nd, rfl⟩⟩; refine ⟨_, rfl, ?_⟩; have p103 : 0 ≤ (x6_1 : Int) := of_decide_eq_true (by first | (with_reducible assumption) | assumption); have q103 : x6_1 < (l0.length : Int) := of_decide_eq_true (by first | (with_reducible assumption) | assumption); obtain ⟨ad103, e103, hx103_0⟩ := Kd.at_string HR0.out x6_1 p103 q103; obtain rfl : ad101 = ad103 := (by injection e103); replace hx103_0 := (HB.out.cell (World.block_lt_of_cell? w _ hx103_0)).trans hx103_0; replace p103 := eq_true p103; replace q103 := eq_true q103))
       go_roundg k1
       case measure => have := HK1.out; omega
       case rel => exact ⟨(decide (((rdOf ByteArray.empty l0 x6_1).size : Int) > 255)), (wrap64 (x6_1 + 1)), (by first | rfl | (simp; done) | (simp [*]; done) | (simp [show ∀ l_ : List UInt8, (l_ != []) = !l_.isEmpty from fun l_ => by cases l_ <;> rfl]; done) | (congr 1; refine congr (congrArg (Go.bits _ _) ?_) ?_ <;> omega)), (by first | rfl | (simp; done) | (simp [*]; done) | (simp [show ∀ l_ : List UInt8, (l_ != []) = !l_.isEmpty from fun l_ => by cases l_ <;> rfl]; done) | (congr 1; refine congr (congrArg (Go.bits _ _) ?_) ?_ <;> omega)), H', ⟨by have := HK1.out; omega⟩, ⟨by repeat (with_reducible first | exact HB.out | apply below_alloc | apply pw_below_drewN | apply below_drew1)⟩⟩
    ·
     rw [if_neg c3] at H
     exact absurd H (by simp)
   ·
    rw [if_neg c2] at H
    have c2b0 : decide (x6_1 < (l0.length : Int)) = false := decide_eq_false c2
    clear c2
    by_cases c7 : x5_1 = true
    ·
     subst c7
     have H1 : (some (([] : List Int), ([] : List Int), 6)) = some (r1, r2, r3) := by rw [if_pos rfl] at H; exact H
     clear H
     have H := H1
     clear H1
     simp only [Option.some.injEq, Prod.mk.injEq] at H
     obtain ⟨rfl, rfl, rfl⟩ := H
     go_wp2
     go_ret3
     exact ⟨_, _, rfl, by first | exact Kd.R_nil _ _ _ _ _ | exact Kd.N_nil _ _ _ _ _ | exact Kd.V_nil _ _ _ _ _ | exact Kd.Q_nil _ _ _ _ _ | exact Kd.S_nil _ _ _ _ _, by first | exact Kd.R_nil _ _ _ _ _ | exact Kd.N_nil _ _ _ _ _ | exact Kd.V_nil _ _ _ _ _ | exact Kd.Q_nil _ _ _ _ _ | exact Kd.S_nil _ _ _ _ _, by repeat (with_reducible first | exact HB.out | apply below_alloc | apply pw_below_drewN | apply below_drew1)⟩
    ·
     replace c7 := Bool.eq_false_iff.mpr c7
     subst c7
     have H1 : (gangwayref08_Strings.l1 k1 l0 (([0] : List Int)) ([] : List Int) ([] : List ByteArray) ([] : List Int) 0) = some (r1, r2, r3) := by rw [if_neg (show ¬ (false = true) by decide)] at H; exact H
     clear H
     have H := H1
     clear H1
     obtain ⟨y104, hy104⟩ : ∃ y_ : List Int, y_ = (([0] : List Int)) := ⟨_, rfl⟩
     replace H : (gangwayref08_Strings.l1 k1 l0 y104 ([] : List Int) ([] : List ByteArray) ([] : List Int) 0) = some (r1, r2, r3) := by first | (rw [hy104]; with_reducible exact H) | (have H2_ := (Option.bind_some _ _).symm.trans H; rw [hy104]; with_reducible exact H2_) | (have H2_ := (Option.bind_some _ _).symm.trans H; with_reducible exact H2_) | with_reducible exact H | (rw [hy104]; exact H) | exact H
     have Ny104 := Aside0.mk hy104
     clear hy104
     have H' := Aside0.mk H
     clear H
     go_wp2_with (first | ((with_reducible refine gate_dst (N := 34) rfl ?_); (try (refine gate_guard (by rfl) ?_; dsimp only)); refine Kd.R_lit (Kd.int .u8) _ 5 ?hg (N := 34) ?hd (xs := ([0] : List Int)) (inner := [.int .u8 0]) (ok := fun _ => True) (okp := fun _ => True) ?hr ?hp (fun _ hk => hk) trivial (Below.refl _ _) (Nat.le_refl _) (by simp) ?_; (case hd => rfl); (case hg => rfl); (case hr => first | (go_simp; done) | (go_simp; rfl)); (case hp => exact (Reps.one (show Kd.M (Kd.int .u8) _ _ _ 0 [.int .u8 0] from rfl) (Reps.none _ _))); intro v105 w8 ho9 hb hg_ hnew_; clear hg_ hnew_; (first | rw [← Ny104.out] at ho9 | (simp only [Int.reduceToNat] at ho9; rw [← Ny104.out] at ho9)); have n0_ := Aside0.mk (Kd.R_lower ho9 (below_size (by repeat (with_reducible first | exact HB.out | apply below_alloc | apply pw_below_drewN | apply below_drew1)))); have n1_ := Aside0.mk (below_step (by repeat (with_reducible first | exact HB.out | apply below_alloc | apply pw_below_drewN | apply below_drew1)) hb); clear HB; have HO106 := n0_; have HB := n1_; clear n0_ n1_; clear hb ho9))
     go_loopg [7, 8, 9, 10, 11] k1 (fun kq v7 v8 v9 v10 v11 w' => ∃ (x7_2 : List Int) (x8_2 : List Int) (x9_2 : List ByteArray) (x10_2 : List Int) (x11_2 : Int), v11 = .int .i64 x11_2 ∧ Aside0 (gangwayref08_Strings.l1 kq l0 x7_2 x8_2 x9_2 x10_2 x11_2 = some (r1, r2, r3)) ∧ Aside0 (kq ≤ k1) ∧ Aside0 (Kd.R (Kd.int .u8) 5 w' w.heap.size (fun _ => True) v7 x7_2) ∧ Aside0 (Kd.R (Kd.int .i64) 3 w' w.heap.size (fun k_ => some k_ ≠ (v10 : Value).ownBlock) v8 x8_2) ∧ Aside0 (Kd.R Kd.string 9 w' w.heap.size (fun _ => True) v9 x9_2) ∧ Aside0 (Kd.R (Kd.int .i64) 3 w' w.heap.size (fun k_ => some k_ ≠ (v8 : Value).ownBlock) v10 x10_2) ∧ Aside0 (Below w.heap.size w w'))
     case atStart => exact ⟨(y104), (([] : List Int)), (([] : List ByteArray)), (([] : List Int)), (0), (by first | rfl | (simp; done) | (simp [*]; done) | (simp [show ∀ l_ : List UInt8, (l_ != []) = !l_.isEmpty from fun l_ => by cases l_ <;> rfl]; done) | (congr 1; refine congr (congrArg (Go.bits _ _) ?_) ?_ <;> omega)), H', ⟨Nat.le_refl _⟩, ⟨by (with_reducible repeat (first | apply Kd.R_alloc | apply Kd.R_drewN | apply Kd.R_drew)); exact HO106.out⟩, ⟨by first | exact Kd.R_nil _ _ _ _ _ | exact Kd.N_nil _ _ _ _ _ | exact Kd.V_nil _ _ _ _ _ | exact Kd.Q_nil _ _ _ _ _ | exact Kd.S_nil _ _ _ _ _⟩, ⟨by first | exact Kd.R_nil _ _ _ _ _ | exact Kd.N_nil _ _ _ _ _ | exact Kd.V_nil _ _ _ _ _ | exact Kd.Q_nil _ _ _ _ _ | exact Kd.S_nil _ _ _ _ _⟩, ⟨by first | exact Kd.R_nil _ _ _ _ _ | exact Kd.N_nil _ _ _ _ _ | exact Kd.V_nil _ _ _ _ _ | exact Kd.Q_nil _ _ _ _ _ | exact Kd.S_nil _ _ _ _ _⟩, ⟨by repeat (with_reducible first | exact HB.out | apply below_alloc | apply pw_below_drewN | apply below_drew1)⟩⟩
     case round =>
      clear H'
      try clear c1
      try clear p1
      try clear q1
      try clear hx1
      try clear c2
      try clear c2b0
      try clear p2
      try clear c3
      try clear c3b0
      try clear c5
      try clear c6
      try clear p6
      try clear c7
      try clear hx101_0
      try clear hx103_0
      try clear p101
      try clear p103
      try clear q101
      try clear q103
      obtain ⟨x7_2, x8_2, x9_2, x10_2, x11_2, rfl, HA, HK2, HO_7, HO_8, HO_9, HO_10, HB⟩ := hrel
      cases gk with
      | zero => exact absurd HA.out (by simp [gangwayref08_Strings.l1])
      | succ k2 =>
       have H := HA.out
       clear HA
       simp only [gangwayref08_Strings.l1] at H
       by_cases c10 : x11_2 < (l0.length : Int)
       ·
        rw [if_pos c10] at H
        have c10b0 : decide (x11_2 < (l0.length : Int)) = true := decide_eq_true c10
        clear c10
        by_cases c11 : 0 ≤ x11_2
        ·
         rw [if_pos c11] at H
         have c11b0 : decide (0 ≤ x11_2) = true := decide_eq_true c11
         clear c11
         by_cases c12 : (rdOf ByteArray.empty l0 x11_2).toList = ([] : List UInt8)
         ·
          rw [if_pos c12] at H
          have c12b0 : ((rdOf ByteArray.empty l0 x11_2).toList == ([] : List UInt8)) = true := beq_iff_eq.mpr c12
          have c12b1 : ((rdOf ByteArray.empty l0 x11_2).toList != ([] : List UInt8)) = false := bne_eq_false_iff_eq.mpr c12
          clear c12
          by_cases c13 : x8_2.length < 17592186044416
          ·
           rw [if_pos c13] at H
           have LMc13 := Aside0.mk c13
           clear c13
           obtain ⟨y108, hy108⟩ : ∃ y_ : List Int, y_ = (x8_2 ++ [0]) := ⟨_, rfl⟩
           replace H : (gangwayref08_Strings.l1 k2 l0 x7_2 y108 x9_2 x10_2 (wrap64 (x11_2 + 1))) = some (r1, r2, r3) := by first | (rw [hy108]; with_reducible exact H) | (have H2_ := (Option.bind_some _ _).symm.trans H; rw [hy108]; with_reducible exact H2_) | (have H2_ := (Option.bind_some _ _).symm.trans H; with_reducible exact H2_) | with_reducible exact H | (rw [hy108]; exact H) | exact H
           have Ny108 := Aside0.mk hy108
           clear hy108
           have H' := Aside0.mk H
           clear H
           have p107 : 0 ≤ (x11_2 : Int) := of_decide_eq_true (by first | (with_reducible assumption) | assumption)
           have q107 : x11_2 < (l0.length : Int) := of_decide_eq_true (by first | (with_reducible assumption) | assumption)
           obtain ⟨ad107, e107, hx107_0⟩ := Kd.at_string HR0.out x11_2 p107 q107
           cases e107
           replace hx107_0 := (HB.out.cell (World.block_lt_of_cell? w _ hx107_0)).trans hx107_0
           replace p107 := eq_true p107
           replace q107 := eq_true q107
           go_wp2_with (first | ((with_reducible refine gate_builtin (b := .append) (xs := #[.tmp 46, .tmp 47]) rfl ?_); (try (refine gate_guard (by rfl) ?_; dsimp only)); at_builtin; refine Kd.R_append (Kd.int .i64) (w0 := w) w.heap.size rfl (.tmp 46) (.tmp 47) 28 3 (.int .i64 0) 8 rfl Try.underlying28 info3 rfl (by decide) (by omega) u8 x8_2 0 [.int .i64 0] (fun k_ => some k_ ≠ (u10 : Value).ownBlock) (fun _ => False) rfl rfl ?aP (fun _ hk => hk.elim) ?aF ?aO ?aB ?aS ?aL ?_; (case aP => exact rfl); (case aB => exact (by repeat (with_reducible first | exact HB.out | apply below_alloc | apply pw_below_drewN | apply below_drew1))); (case aF => exact (fun k_ hk => Kd.fresh' (Kd.R_lt (by (with_reducible repeat (first | apply Kd.R_alloc | apply Kd.R_drewN | apply Kd.R_drew)); exact HO_10.out)) k_ hk)); (case aO => exact (by (with_reducible repeat (first | apply Kd.R_alloc | apply Kd.R_drewN | apply Kd.R_drew)); exact HO_8.out)); (case aS => exact (below_size (by repeat (with_reducible first | exact HB.out | apply below_alloc | apply pw_below_drewN | apply below_drew1)))); (case aL => have := LMc13.out; omega); intro v109 w14 ho hb hg hat; rw [← Ny108.out] at ho; have n0_ := Aside0.mk (Kd.R_over' (by (with_reducible repeat (first | apply Kd.R_alloc | apply Kd.R_drewN | apply Kd.R_drew)); exact HO_7.out) (Kd.R_typed (by (with_reducible repeat (first | apply Kd.R_alloc | apply Kd.R_drewN | apply Kd.R_drew)); exact HO_8.out)) (by decide) hg); have n1_ := Aside0.mk (Kd.R_over' (by (with_reducible repeat (first | apply Kd.R_alloc | apply Kd.R_drewN | apply Kd.R_drew)); exact HO_9.out) (Kd.R_typed (by (with_reducible repeat (first | apply Kd.R_alloc | apply Kd.R_drewN | apply Kd.R_drew)); exact HO_8.out)) (by decide) hg); have n2_ := Aside0.mk (Kd.R_after (ok := (fun _ => True)) (by (with_reducible repeat (first | apply Kd.R_alloc | apply Kd.R_drewN | apply Kd.R_drew)); exact Kd.R_mono HO_10.out (fun _ hk => ⟨trivial, hk⟩)) hg hat); have n3_ := Aside0.mk (hb); have n4_ := Aside0.mk (ho); clear HO_7; clear HO_9; clear HO_10; clear HB; clear HO_8; have HO_7 := n0_; have HO_9 := n1_; have HO_10 := n2_; have HB := n3_; have HO110 := n4_; clear n0_ n1_ n2_ n3_ n4_; clear ho hb hg hat))
           go_roundg k2
           case measure => have := HK1.out; have := HK2.out; omega
           case rel => exact ⟨(x7_2), (y108), (x9_2), (x10_2), (wrap64 (x11_2 + 1)), (by first | rfl | (simp; done) | (simp [*]; done) | (simp [show ∀ l_ : List UInt8, (l_ != []) = !l_.isEmpty from fun l_ => by cases l_ <;> rfl]; done) | (congr 1; refine congr (congrArg (Go.bits _ _) ?_) ?_ <;> omega)), H', ⟨by have := HK1.out; have := HK2.out; omega⟩, ⟨by (with_reducible repeat (first | apply Kd.R_alloc | apply Kd.R_drewN | apply Kd.R_drew)); exact HO_7.out⟩, ⟨by (with_reducible repeat (first | apply Kd.R_alloc | apply Kd.R_drewN | apply Kd.R_drew)); exact HO110.out⟩, ⟨by (with_reducible repeat (first | apply Kd.R_alloc | apply Kd.R_drewN | apply Kd.R_drew)); exact HO_9.out⟩, ⟨by (with_reducible repeat (first | apply Kd.R_alloc | apply Kd.R_drewN | apply Kd.R_drew)); exact Kd.R_mono HO_10.out (fun _ hk => hk.2)⟩, ⟨by repeat (with_reducible first | exact HB.out | apply below_alloc | apply pw_below_drewN | apply below_drew1)⟩⟩
          ·
           rw [if_neg c13] at H
           exact absurd H (by simp)
         ·
          rw [if_neg c12] at H
          have c12b0 : ((rdOf ByteArray.empty l0 x11_2).toList == ([] : List UInt8)) = false := beq_eq_false_iff_ne.mpr c12
          have c12b1 : ((rdOf ByteArray.empty l0 x11_2).toList != ([] : List UInt8)) = true := bne_iff_ne.mpr c12
          replace H := Option.bind_eq_some_iff.mp H
          obtain ⟨t112, A150, H⟩ := H
          replace H : (if t112 = (x9_2.length : Int) then (if x9_2.length < 8796093022208 then (if x10_2.length < 17592186044416 then ((some (x10_2 ++ [(x7_2.length : Int)] : List Int)).bind fun y117 => (if x7_2.length + (rdOf ByteArray.empty l0 x11_2).size < 140737488355328 then ((some (x7_2 ++ bytesOf (rdOf ByteArray.empty l0 x11_2) : List Int)).bind fun y121 => (if y121.length < 140737488355328 then ((some (y121 ++ [0] : List Int)).bind fun y124 => (if (y124.length : Int) > 1048576 then (some (([] : List Int), ([] : List Int), 6)) else (if 0 ≤ t112 then (if t112 < (y117.length : Int) then (if x8_2.length < 17592186044416 then (gangwayref08_Strings.l1 k2 l0 y124 (x8_2 ++ [rd y117 t112]) (x9_2 ++ [rdOf ByteArray.empty l0 x11_2]) y117 (wrap64 (x11_2 + 1))) else (none)) else (none)) else (none)))) else (none))) else (none))) else (none)) else (none)) else (if 0 ≤ t112 then (if t112 < (x10_2.length : Int) then (if x8_2.length < 17592186044416 then (gangwayref08_Strings.l1 k2 l0 x7_2 (x8_2 ++ [rd x10_2 t112]) x9_2 x10_2 (wrap64 (x11_2 + 1))) else (none)) else (none)) else (none))) = some (r1, r2, r3) := H
          have A15 := Aside0.mk A150
          clear A150
          by_cases c16 : t112 = (x9_2.length : Int)
          ·
           rw [if_pos c16] at H
           have c16b0 : (t112 == (x9_2.length : Int)) = true := beq_iff_eq.mpr c16
           have c16b1 : (t112 != (x9_2.length : Int)) = false := bne_eq_false_iff_eq.mpr c16
           clear c16
           by_cases c17 : x9_2.length < 8796093022208
           ·
            rw [if_pos c17] at H
            have LMc17 := Aside0.mk c17
            clear c17
            obtain ⟨y114, hy114⟩ : ∃ y_ : List ByteArray, y_ = (x9_2 ++ [rdOf ByteArray.empty l0 x11_2]) := ⟨_, rfl⟩
            replace H : (if x10_2.length < 17592186044416 then ((some (x10_2 ++ [(x7_2.length : Int)] : List Int)).bind fun y117 => (if x7_2.length + (rdOf ByteArray.empty l0 x11_2).size < 140737488355328 then ((some (x7_2 ++ bytesOf (rdOf ByteArray.empty l0 x11_2) : List Int)).bind fun y121 => (if y121.length < 140737488355328 then ((some (y121 ++ [0] : List Int)).bind fun y124 => (if (y124.length : Int) > 1048576 then (some (([] : List Int), ([] : List Int), 6)) else (if 0 ≤ t112 then (if t112 < (y117.length : Int) then (if x8_2.length < 17592186044416 then (gangwayref08_Strings.l1 k2 l0 y124 (x8_2 ++ [rd y117 t112]) y114 y117 (wrap64 (x11_2 + 1))) else (none)) else (none)) else (none)))) else (none))) else (none))) else (none)) = some (r1, r2, r3) := by first | (rw [hy114]; with_reducible exact H) | (have H2_ := (Option.bind_some _ _).symm.trans H; rw [hy114]; with_reducible exact H2_) | (have H2_ := (Option.bind_some _ _).symm.trans H; with_reducible exact H2_) | with_reducible exact H | (rw [hy114]; exact H) | exact H
            have Ny114 := Aside0.mk hy114
            clear hy114
            by_cases c18 : x10_2.length < 17592186044416
            ·
             rw [if_pos c18] at H
             have LMc18 := Aside0.mk c18
             clear c18
             obtain ⟨y117, hy117⟩ : ∃ y_ : List Int, y_ = (x10_2 ++ [(x7_2.length : Int)]) := ⟨_, rfl⟩
             replace H : (if x7_2.length + (rdOf ByteArray.empty l0 x11_2).size < 140737488355328 then ((some (x7_2 ++ bytesOf (rdOf ByteArray.empty l0 x11_2) : List Int)).bind fun y121 => (if y121.length < 140737488355328 then ((some (y121 ++ [0] : List Int)).bind fun y124 => (if (y124.length : Int) > 1048576 then (some (([] : List Int), ([] : List Int), 6)) else (if 0 ≤ t112 then (if t112 < (y117.length : Int) then (if x8_2.length < 17592186044416 then (gangwayref08_Strings.l1 k2 l0 y124 (x8_2 ++ [rd y117 t112]) y114 y117 (wrap64 (x11_2 + 1))) else (none)) else (none)) else (none)))) else (none))) else (none)) = some (r1, r2, r3) := by first | (rw [hy117]; with_reducible exact H) | (have H2_ := (Option.bind_some _ _).symm.trans H; rw [hy117]; with_reducible exact H2_) | (have H2_ := (Option.bind_some _ _).symm.trans H; with_reducible exact H2_) | with_reducible exact H | (rw [hy117]; exact H) | exact H
             have Ny117 := Aside0.mk hy117
             clear hy117
             by_cases c19 : x7_2.length + (rdOf ByteArray.empty l0 x11_2).size < 140737488355328
             ·
              rw [if_pos c19] at H
              have LMc19 := Aside0.mk c19
              clear c19
              obtain ⟨y121, hy121⟩ : ∃ y_ : List Int, y_ = (x7_2 ++ bytesOf (rdOf ByteArray.empty l0 x11_2)) := ⟨_, rfl⟩
              replace H : (if y121.length < 140737488355328 then ((some (y121 ++ [0] : List Int)).bind fun y124 => (if (y124.length : Int) > 1048576 then (some (([] : List Int), ([] : List Int), 6)) else (if 0 ≤ t112 then (if t112 < (y117.length : Int) then (if x8_2.length < 17592186044416 then (gangwayref08_Strings.l1 k2 l0 y124 (x8_2 ++ [rd y117 t112]) y114 y117 (wrap64 (x11_2 + 1))) else (none)) else (none)) else (none)))) else (none)) = some (r1, r2, r3) := by first | (rw [hy121]; with_reducible exact H) | (have H2_ := (Option.bind_some _ _).symm.trans H; rw [hy121]; with_reducible exact H2_) | (have H2_ := (Option.bind_some _ _).symm.trans H; with_reducible exact H2_) | with_reducible exact H | (rw [hy121]; exact H) | exact H
              have Ny121 := Aside0.mk hy121
              clear hy121
              by_cases c20 : y121.length < 140737488355328
              ·
               rw [if_pos c20] at H
               have LMc20 := Aside0.mk c20
               clear c20
               obtain ⟨y124, hy124⟩ : ∃ y_ : List Int, y_ = (y121 ++ [0]) := ⟨_, rfl⟩
               replace H : (if (y124.length : Int) > 1048576 then (some (([] : List Int), ([] : List Int), 6)) else (if 0 ≤ t112 then (if t112 < (y117.length : Int) then (if x8_2.length < 17592186044416 then (gangwayref08_Strings.l1 k2 l0 y124 (x8_2 ++ [rd y117 t112]) y114 y117 (wrap64 (x11_2 + 1))) else (none)) else (none)) else (none))) = some (r1, r2, r3) := by first | (rw [hy124]; with_reducible exact H) | (have H2_ := (Option.bind_some _ _).symm.trans H; rw [hy124]; with_reducible exact H2_) | (have H2_ := (Option.bind_some _ _).symm.trans H; with_reducible exact H2_) | with_reducible exact H | (rw [hy124]; exact H) | exact H
               have Ny124 := Aside0.mk hy124
               clear hy124
               by_cases c21 : (y124.length : Int) > 1048576
               ·
                rw [if_pos c21] at H
                have c21b0 : decide (1048576 < (y124.length : Int)) = true := decide_eq_true c21
                have c21b1 : decide (1048576 < y124.length) = true := decide_eq_true (by omega)
                clear c21
                simp only [Option.some.injEq, Prod.mk.injEq] at H
                obtain ⟨rfl, rfl, rfl⟩ := H
                have p107 : 0 ≤ (x11_2 : Int) := of_decide_eq_true (by first | (with_reducible assumption) | assumption)
                have q107 : x11_2 < (l0.length : Int) := of_decide_eq_true (by first | (with_reducible assumption) | assumption)
                obtain ⟨ad107, e107, hx107_0⟩ := Kd.at_string HR0.out x11_2 p107 q107
                cases e107
                replace hx107_0 := (HB.out.cell (World.block_lt_of_cell? w _ hx107_0)).trans hx107_0
                replace p107 := eq_true p107
                replace q107 := eq_true q107
                have p111 : 0 ≤ (x11_2 : Int) := of_decide_eq_true (by first | (with_reducible assumption) | assumption)
                have q111 : x11_2 < (l0.length : Int) := of_decide_eq_true (by first | (with_reducible assumption) | assumption)
                obtain ⟨ad111, e111, hx111_0⟩ := Kd.at_string HR0.out x11_2 p111 q111
                obtain rfl : ad107 = ad111 := (by injection e111)
                replace hx111_0 := (HB.out.cell (World.block_lt_of_cell? w _ hx111_0)).trans hx111_0
                replace p111 := eq_true p111
                replace q111 := eq_true q111
                obtain ⟨Ao22, co22, eo22⟩ := Kd.R_slice HO_9.out
                subst eo22
                go_wp2_with (first | ((with_reducible refine gate_callee (f := 30) rfl ?_); refine goesL_ (some 54) rfl rfl Try.func30 (by kernel_rfl) rfl #[.slice Ao22 x9_2.length co22, .string (rdOf ByteArray.empty l0 x11_2)] rfl (by (try simp only [List.map_toArray, List.map_cons, List.map_nil]); first | done | rfl | (simp only [List.length_drop, List.length_take]; rfl)) ?_; (with_reducible refine (gangwayref08_place.calls k2 _ _ x9_2 (rdOf ByteArray.empty l0 x11_2) t112 _ ?side1 ?side2 A15.out).mono ?_); (case side1 => repeat (first | exact (Kd.R_reads' HO_9.out).2.2 | (with_reducible refine Kd.C_alloc ?_ _) | (with_reducible refine Kd.C_drewN ?_ _) | (with_reducible refine Kd.C_drew ?_))); (case side2 => exact (Kd.R_reads' HO_9.out).2.1); rintro e w' ⟨rfl, ⟨nd, rfl⟩⟩; refine ⟨_, rfl, ?_⟩; have p113 : 0 ≤ (x11_2 : Int) := of_decide_eq_true (by first | (with_reducible assumption) | assumption); have q113 : x11_2 < (l0.length : Int) := of_decide_eq_true (by first | (with_reducible assumption) | assumption); obtain ⟨ad113, e113, hx113_0⟩ := Kd.at_string HR0.out x11_2 p113 q113; obtain rfl : ad107 = ad113 := (by injection e113); replace hx113_0 := (HB.out.cell (World.block_lt_of_cell? w _ hx113_0)).trans hx113_0; replace p113 := eq_true p113; replace q113 := eq_true q113) | ((with_reducible refine gate_builtin (b := .append) (xs := #[.tmp 59, .tmp 64]) rfl ?_); (try (refine gate_guard (by rfl) ?_; dsimp only)); at_builtin; refine Kd.R_append Kd.string (w0 := w) w.heap.size rfl (.tmp 59) (.tmp 64) 27 9 (.string ⟨#[]⟩) 16 rfl Try.underlying27 info9 rfl (by decide) (by omega) (.slice Ao22 x9_2.length co22) x9_2 (rdOf ByteArray.empty l0 x11_2) [.string (rdOf ByteArray.empty l0 x11_2)] (fun _ => True) (fun _ => False) rfl rfl ?aP (fun _ hk => hk.elim) ?aF ?aO ?aB ?aS ?aL ?_; (case aP => exact rfl); (case aB => exact (by repeat (with_reducible first | exact HB.out | apply below_alloc | apply pw_below_drewN | apply below_drew1))); (case aF => exact (fun _ _ => trivial)); (case aO => exact (by (with_reducible repeat (first | apply Kd.R_alloc | apply Kd.R_drewN | apply Kd.R_drew)); exact HO_9.out)); (case aS => exact (below_size (by repeat (with_reducible first | exact HB.out | apply below_alloc | apply pw_below_drewN | apply below_drew1)))); (case aL => have := LMc17.out; omega); intro v115 w23 ho hb hg hat; rw [← Ny114.out] at ho; have n0_ := Aside0.mk (Kd.R_over' (by (with_reducible repeat (first | apply Kd.R_alloc | apply Kd.R_drewN | apply Kd.R_drew)); exact HO_7.out) (Kd.R_typed (by (with_reducible repeat (first | apply Kd.R_alloc | apply Kd.R_drewN | apply Kd.R_drew)); exact HO_9.out)) (by decide) hg); have n1_ := Aside0.mk (Kd.R_over' (by (with_reducible repeat (first | apply Kd.R_alloc | apply Kd.R_drewN | apply Kd.R_drew)); exact HO_8.out) (Kd.R_typed (by (with_reducible repeat (first | apply Kd.R_alloc | apply Kd.R_drewN | apply Kd.R_drew)); exact HO_9.out)) (by decide) hg); have n2_ := Aside0.mk (Kd.R_over' (by (with_reducible repeat (first | apply Kd.R_alloc | apply Kd.R_drewN | apply Kd.R_drew)); exact HO_10.out) (Kd.R_typed (by (with_reducible repeat (first | apply Kd.R_alloc | apply Kd.R_drewN | apply Kd.R_drew)); exact HO_9.out)) (by decide) hg); have n3_ := Aside0.mk (hb); have n4_ := Aside0.mk (ho); clear HO_7; clear HO_8; clear HO_10; clear HB; clear HO_9; have HO_7 := n0_; have HO_8 := n1_; have HO_10 := n2_; have HB := n3_; have HO116 := n4_; clear n0_ n1_ n2_ n3_ n4_; clear ho hb hg hat; obtain ⟨Ao24, co24, eo24⟩ := Kd.R_slice HO_7.out; subst eo24) | ((with_reducible refine gate_builtin (b := .append) (xs := #[.tmp 66, .tmp 69]) rfl ?_); (try (refine gate_guard (by rfl) ?_; dsimp only)); at_builtin; refine Kd.R_append (Kd.int .i64) (w0 := w) w.heap.size rfl (.tmp 66) (.tmp 69) 28 3 (.int .i64 0) 8 rfl Try.underlying28 info3 rfl (by decide) (by omega) u10 x10_2 (x7_2.length : Int) [.int .i64 (x7_2.length : Int)] (fun k_ => some k_ ≠ (u8 : Value).ownBlock) (fun _ => False) rfl rfl ?aP (fun _ hk => hk.elim) ?aF ?aO ?aB ?aS ?aL ?_; (case aP => exact rfl); (case aB => exact (by repeat (with_reducible first | exact HB.out | apply below_alloc | apply pw_below_drewN | apply below_drew1))); (case aF => exact (fun k_ hk => Kd.fresh' (Kd.R_lt (by (with_reducible repeat (first | apply Kd.R_alloc | apply Kd.R_drewN | apply Kd.R_drew)); exact HO_8.out)) k_ hk)); (case aO => exact (by (with_reducible repeat (first | apply Kd.R_alloc | apply Kd.R_drewN | apply Kd.R_drew)); exact HO_10.out)); (case aS => exact (below_size (by repeat (with_reducible first | exact HB.out | apply below_alloc | apply pw_below_drewN | apply below_drew1)))); (case aL => have := LMc18.out; omega); intro v118 w25 ho hb hg hat; rw [← Ny117.out] at ho; have n0_ := Aside0.mk (Kd.R_over' (by (with_reducible repeat (first | apply Kd.R_alloc | apply Kd.R_drewN | apply Kd.R_drew)); exact HO_7.out) (Kd.R_typed (by (with_reducible repeat (first | apply Kd.R_alloc | apply Kd.R_drewN | apply Kd.R_drew)); exact HO_10.out)) (by decide) hg); have n1_ := Aside0.mk (Kd.R_after (ok := (fun _ => True)) (by (with_reducible repeat (first | apply Kd.R_alloc | apply Kd.R_drewN | apply Kd.R_drew)); exact Kd.R_mono HO_8.out (fun _ hk => ⟨trivial, hk⟩)) hg hat); have n2_ := Aside0.mk (Kd.R_over' (by (with_reducible repeat (first | apply Kd.R_alloc | apply Kd.R_drewN | apply Kd.R_drew)); exact HO116.out) (Kd.R_typed (by (with_reducible repeat (first | apply Kd.R_alloc | apply Kd.R_drewN | apply Kd.R_drew)); exact HO_10.out)) (by decide) hg); have n3_ := Aside0.mk (hb); have n4_ := Aside0.mk (ho); clear HO_7; clear HO_8; clear HO116; clear HB; clear HO_10; have HO_7 := n0_; have HO_8 := n1_; have HO116 := n2_; have HB := n3_; have HO119 := n4_; clear n0_ n1_ n2_ n3_ n4_; clear ho hb hg hat; have p120 : 0 ≤ (x11_2 : Int) := of_decide_eq_true (by first | (with_reducible assumption) | assumption); have q120 : x11_2 < (l0.length : Int) := of_decide_eq_true (by first | (with_reducible assumption) | assumption); obtain ⟨ad120, e120, hx120_0⟩ := Kd.at_string HR0.out x11_2 p120 q120; obtain rfl : ad107 = ad120 := (by injection e120); replace hx120_0 := (HB.out.cell (World.block_lt_of_cell? w _ hx120_0)).trans hx120_0; replace p120 := eq_true p120; replace q120 := eq_true q120) | (at_builtin; refine print_append_str (w0 := w) w.heap.size rfl (.tmp 71) _ 24 9 5 rfl Try.underlying24 Try.underlying9 info5 (.slice Ao24 x7_2.length co24) x7_2 (rdOf ByteArray.empty l0 x11_2) rfl rfl ?aO ?aB ?aS ?aL ?_; (case aB => exact (by repeat (with_reducible first | exact HB.out | apply below_alloc | apply pw_below_drewN | apply below_drew1))); (case aO => exact (Kd.own_of_R (by (with_reducible repeat (first | apply Kd.R_alloc | apply Kd.R_drewN | apply Kd.R_drew)); exact HO_7.out))); (case aS => exact (below_size (by repeat (with_reducible first | exact HB.out | apply below_alloc | apply pw_below_drewN | apply below_drew1)))); (case aL => have := LMc19.out; omega); intro v122 w26 ho0 hb hg; have ho := Kd.R_of_own (h1 := fun _ => rfl) (ok := fun _ => True) ho0 (fun _ _ => trivial); clear ho0; have hat := True.intro; rw [← Ny121.out] at ho; change Kd.R (Kd.int .u8) 5 w26 w.heap.size (fun _ => True) v122 y121 at ho; have n0_ := Aside0.mk (Kd.R_over' (by (with_reducible repeat (first | apply Kd.R_alloc | apply Kd.R_drewN | apply Kd.R_drew)); exact HO_8.out) (Kd.R_typed (by (with_reducible repeat (first | apply Kd.R_alloc | apply Kd.R_drewN | apply Kd.R_drew)); exact HO_7.out)) (by decide) hg); have n1_ := Aside0.mk (Kd.R_over' (by (with_reducible repeat (first | apply Kd.R_alloc | apply Kd.R_drewN | apply Kd.R_drew)); exact HO116.out) (Kd.R_typed (by (with_reducible repeat (first | apply Kd.R_alloc | apply Kd.R_drewN | apply Kd.R_drew)); exact HO_7.out)) (by decide) hg); have n2_ := Aside0.mk (Kd.R_over' (by (with_reducible repeat (first | apply Kd.R_alloc | apply Kd.R_drewN | apply Kd.R_drew)); exact HO119.out) (Kd.R_typed (by (with_reducible repeat (first | apply Kd.R_alloc | apply Kd.R_drewN | apply Kd.R_drew)); exact HO_7.out)) (by decide) hg); have n3_ := Aside0.mk (hb); have n4_ := Aside0.mk (ho); clear HO_8; clear HO116; clear HO119; clear HB; clear HO_7; have HO_8 := n0_; have HO116 := n1_; have HO119 := n2_; have HB := n3_; have HO123 := n4_; clear n0_ n1_ n2_ n3_ n4_; clear ho hb hg hat) | ((with_reducible refine gate_builtin (b := .append) (xs := #[.tmp 76, .tmp 77]) rfl ?_); (try (refine gate_guard (by rfl) ?_; dsimp only)); at_builtin; refine Kd.R_append (Kd.int .u8) (w0 := w) w.heap.size rfl (.tmp 76) (.tmp 77) 24 5 (.int .u8 0) 1 rfl Try.underlying24 info5 rfl (by decide) (by omega) v122 y121 0 [.int .u8 0] (fun _ => True) (fun _ => False) rfl rfl ?aP (fun _ hk => hk.elim) ?aF ?aO ?aB ?aS ?aL ?_; (case aP => exact rfl); (case aB => exact (by repeat (with_reducible first | exact HB.out | apply below_alloc | apply pw_below_drewN | apply below_drew1))); (case aF => exact (fun _ _ => trivial)); (case aO => exact (by (with_reducible repeat (first | apply Kd.R_alloc | apply Kd.R_drewN | apply Kd.R_drew)); exact HO123.out)); (case aS => exact (below_size (by repeat (with_reducible first | exact HB.out | apply below_alloc | apply pw_below_drewN | apply below_drew1)))); (case aL => have := LMc20.out; omega); intro v125 w27 ho hb hg hat; rw [← Ny124.out] at ho; have n0_ := Aside0.mk (Kd.R_over' (by (with_reducible repeat (first | apply Kd.R_alloc | apply Kd.R_drewN | apply Kd.R_drew)); exact HO_8.out) (Kd.R_typed (by (with_reducible repeat (first | apply Kd.R_alloc | apply Kd.R_drewN | apply Kd.R_drew)); exact HO123.out)) (by decide) hg); have n1_ := Aside0.mk (Kd.R_over' (by (with_reducible repeat (first | apply Kd.R_alloc | apply Kd.R_drewN | apply Kd.R_drew)); exact HO116.out) (Kd.R_typed (by (with_reducible repeat (first | apply Kd.R_alloc | apply Kd.R_drewN | apply Kd.R_drew)); exact HO123.out)) (by decide) hg); have n2_ := Aside0.mk (Kd.R_over' (by (with_reducible repeat (first | apply Kd.R_alloc | apply Kd.R_drewN | apply Kd.R_drew)); exact HO119.out) (Kd.R_typed (by (with_reducible repeat (first | apply Kd.R_alloc | apply Kd.R_drewN | apply Kd.R_drew)); exact HO123.out)) (by decide) hg); have n3_ := Aside0.mk (hb); have n4_ := Aside0.mk (ho); clear HO_8; clear HO116; clear HO119; clear HB; clear HO123; have HO_8 := n0_; have HO116 := n1_; have HO119 := n2_; have HB := n3_; have HO126 := n4_; clear n0_ n1_ n2_ n3_ n4_; clear ho hb hg hat; obtain ⟨Ao28, co28, eo28⟩ := Kd.R_slice HO126.out; subst eo28))
                go_ret3
                exact ⟨_, _, rfl, by first | exact Kd.R_nil _ _ _ _ _ | exact Kd.N_nil _ _ _ _ _ | exact Kd.V_nil _ _ _ _ _ | exact Kd.Q_nil _ _ _ _ _ | exact Kd.S_nil _ _ _ _ _, by first | exact Kd.R_nil _ _ _ _ _ | exact Kd.N_nil _ _ _ _ _ | exact Kd.V_nil _ _ _ _ _ | exact Kd.Q_nil _ _ _ _ _ | exact Kd.S_nil _ _ _ _ _, by repeat (with_reducible first | exact HB.out | apply below_alloc | apply pw_below_drewN | apply below_drew1)⟩
               ·
                rw [if_neg c21] at H
                have c21b0 : decide (1048576 < (y124.length : Int)) = false := decide_eq_false c21
                have c21b1 : decide (1048576 < y124.length) = false := decide_eq_false (by omega)
                clear c21
                by_cases c29 : 0 ≤ t112
                ·
                 rw [if_pos c29] at H
                 have c29b0 : decide (0 ≤ t112) = true := decide_eq_true c29
                 clear c29
                 by_cases c30 : t112 < (y117.length : Int)
                 ·
                  rw [if_pos c30] at H
                  have c30b0 : decide (t112 < (y117.length : Int)) = true := decide_eq_true c30
                  clear c30
                  by_cases c31 : x8_2.length < 17592186044416
                  ·
                   rw [if_pos c31] at H
                   have LMc31 := Aside0.mk c31
                   clear c31
                   obtain ⟨y128, hy128⟩ : ∃ y_ : List Int, y_ = (x8_2 ++ [rd y117 t112]) := ⟨_, rfl⟩
                   replace H : (gangwayref08_Strings.l1 k2 l0 y124 y128 y114 y117 (wrap64 (x11_2 + 1))) = some (r1, r2, r3) := by first | (rw [hy128]; with_reducible exact H) | (have H2_ := (Option.bind_some _ _).symm.trans H; rw [hy128]; with_reducible exact H2_) | (have H2_ := (Option.bind_some _ _).symm.trans H; with_reducible exact H2_) | with_reducible exact H | (rw [hy128]; exact H) | exact H
                   have Ny128 := Aside0.mk hy128
                   clear hy128
                   have H' := Aside0.mk H
                   clear H
                   have p107 : 0 ≤ (x11_2 : Int) := of_decide_eq_true (by first | (with_reducible assumption) | assumption)
                   have q107 : x11_2 < (l0.length : Int) := of_decide_eq_true (by first | (with_reducible assumption) | assumption)
                   obtain ⟨ad107, e107, hx107_0⟩ := Kd.at_string HR0.out x11_2 p107 q107
                   cases e107
                   replace hx107_0 := (HB.out.cell (World.block_lt_of_cell? w _ hx107_0)).trans hx107_0
                   replace p107 := eq_true p107
                   replace q107 := eq_true q107
                   have p111 : 0 ≤ (x11_2 : Int) := of_decide_eq_true (by first | (with_reducible assumption) | assumption)
                   have q111 : x11_2 < (l0.length : Int) := of_decide_eq_true (by first | (with_reducible assumption) | assumption)
                   obtain ⟨ad111, e111, hx111_0⟩ := Kd.at_string HR0.out x11_2 p111 q111
                   obtain rfl : ad107 = ad111 := (by injection e111)
                   replace hx111_0 := (HB.out.cell (World.block_lt_of_cell? w _ hx111_0)).trans hx111_0
                   replace p111 := eq_true p111
                   replace q111 := eq_true q111
                   obtain ⟨Ao32, co32, eo32⟩ := Kd.R_slice HO_9.out
                   subst eo32
                   go_wp2_with (first | ((with_reducible refine gate_callee (f := 30) rfl ?_); refine goesL_ (some 54) rfl rfl Try.func30 (by kernel_rfl) rfl #[.slice Ao32 x9_2.length co32, .string (rdOf ByteArray.empty l0 x11_2)] rfl (by (try simp only [List.map_toArray, List.map_cons, List.map_nil]); first | done | rfl | (simp only [List.length_drop, List.length_take]; rfl)) ?_; (with_reducible refine (gangwayref08_place.calls k2 _ _ x9_2 (rdOf ByteArray.empty l0 x11_2) t112 _ ?side1 ?side2 A15.out).mono ?_); (case side1 => repeat (first | exact (Kd.R_reads' HO_9.out).2.2 | (with_reducible refine Kd.C_alloc ?_ _) | (with_reducible refine Kd.C_drewN ?_ _) | (with_reducible refine Kd.C_drew ?_))); (case side2 => exact (Kd.R_reads' HO_9.out).2.1); rintro e w' ⟨rfl, ⟨nd, rfl⟩⟩; refine ⟨_, rfl, ?_⟩; have p113 : 0 ≤ (x11_2 : Int) := of_decide_eq_true (by first | (with_reducible assumption) | assumption); have q113 : x11_2 < (l0.length : Int) := of_decide_eq_true (by first | (with_reducible assumption) | assumption); obtain ⟨ad113, e113, hx113_0⟩ := Kd.at_string HR0.out x11_2 p113 q113; obtain rfl : ad107 = ad113 := (by injection e113); replace hx113_0 := (HB.out.cell (World.block_lt_of_cell? w _ hx113_0)).trans hx113_0; replace p113 := eq_true p113; replace q113 := eq_true q113) | ((with_reducible refine gate_builtin (b := .append) (xs := #[.tmp 59, .tmp 64]) rfl ?_); (try (refine gate_guard (by rfl) ?_; dsimp only)); at_builtin; refine Kd.R_append Kd.string (w0 := w) w.heap.size rfl (.tmp 59) (.tmp 64) 27 9 (.string ⟨#[]⟩) 16 rfl Try.underlying27 info9 rfl (by decide) (by omega) (.slice Ao32 x9_2.length co32) x9_2 (rdOf ByteArray.empty l0 x11_2) [.string (rdOf ByteArray.empty l0 x11_2)] (fun _ => True) (fun _ => False) rfl rfl ?aP (fun _ hk => hk.elim) ?aF ?aO ?aB ?aS ?aL ?_; (case aP => exact rfl); (case aB => exact (by repeat (with_reducible first | exact HB.out | apply below_alloc | apply pw_below_drewN | apply below_drew1))); (case aF => exact (fun _ _ => trivial)); (case aO => exact (by (with_reducible repeat (first | apply Kd.R_alloc | apply Kd.R_drewN | apply Kd.R_drew)); exact HO_9.out)); (case aS => exact (below_size (by repeat (with_reducible first | exact HB.out | apply below_alloc | apply pw_below_drewN | apply below_drew1)))); (case aL => have := LMc17.out; omega); intro v115 w33 ho hb hg hat; rw [← Ny114.out] at ho; have n0_ := Aside0.mk (Kd.R_over' (by (with_reducible repeat (first | apply Kd.R_alloc | apply Kd.R_drewN | apply Kd.R_drew)); exact HO_7.out) (Kd.R_typed (by (with_reducible repeat (first | apply Kd.R_alloc | apply Kd.R_drewN | apply Kd.R_drew)); exact HO_9.out)) (by decide) hg); have n1_ := Aside0.mk (Kd.R_over' (by (with_reducible repeat (first | apply Kd.R_alloc | apply Kd.R_drewN | apply Kd.R_drew)); exact HO_8.out) (Kd.R_typed (by (with_reducible repeat (first | apply Kd.R_alloc | apply Kd.R_drewN | apply Kd.R_drew)); exact HO_9.out)) (by decide) hg); have n2_ := Aside0.mk (Kd.R_over' (by (with_reducible repeat (first | apply Kd.R_alloc | apply Kd.R_drewN | apply Kd.R_drew)); exact HO_10.out) (Kd.R_typed (by (with_reducible repeat (first | apply Kd.R_alloc | apply Kd.R_drewN | apply Kd.R_drew)); exact HO_9.out)) (by decide) hg); have n3_ := Aside0.mk (hb); have n4_ := Aside0.mk (ho); clear HO_7; clear HO_8; clear HO_10; clear HB; clear HO_9; have HO_7 := n0_; have HO_8 := n1_; have HO_10 := n2_; have HB := n3_; have HO116 := n4_; clear n0_ n1_ n2_ n3_ n4_; clear ho hb hg hat; obtain ⟨Ao34, co34, eo34⟩ := Kd.R_slice HO_7.out; subst eo34) | ((with_reducible refine gate_builtin (b := .append) (xs := #[.tmp 66, .tmp 69]) rfl ?_); (try (refine gate_guard (by rfl) ?_; dsimp only)); at_builtin; refine Kd.R_append (Kd.int .i64) (w0 := w) w.heap.size rfl (.tmp 66) (.tmp 69) 28 3 (.int .i64 0) 8 rfl Try.underlying28 info3 rfl (by decide) (by omega) u10 x10_2 (x7_2.length : Int) [.int .i64 (x7_2.length : Int)] (fun k_ => some k_ ≠ (u8 : Value).ownBlock) (fun _ => False) rfl rfl ?aP (fun _ hk => hk.elim) ?aF ?aO ?aB ?aS ?aL ?_; (case aP => exact rfl); (case aB => exact (by repeat (with_reducible first | exact HB.out | apply below_alloc | apply pw_below_drewN | apply below_drew1))); (case aF => exact (fun k_ hk => Kd.fresh' (Kd.R_lt (by (with_reducible repeat (first | apply Kd.R_alloc | apply Kd.R_drewN | apply Kd.R_drew)); exact HO_8.out)) k_ hk)); (case aO => exact (by (with_reducible repeat (first | apply Kd.R_alloc | apply Kd.R_drewN | apply Kd.R_drew)); exact HO_10.out)); (case aS => exact (below_size (by repeat (with_reducible first | exact HB.out | apply below_alloc | apply pw_below_drewN | apply below_drew1)))); (case aL => have := LMc18.out; omega); intro v118 w35 ho hb hg hat; rw [← Ny117.out] at ho; have n0_ := Aside0.mk (Kd.R_over' (by (with_reducible repeat (first | apply Kd.R_alloc | apply Kd.R_drewN | apply Kd.R_drew)); exact HO_7.out) (Kd.R_typed (by (with_reducible repeat (first | apply Kd.R_alloc | apply Kd.R_drewN | apply Kd.R_drew)); exact HO_10.out)) (by decide) hg); have n1_ := Aside0.mk (Kd.R_after (ok := (fun _ => True)) (by (with_reducible repeat (first | apply Kd.R_alloc | apply Kd.R_drewN | apply Kd.R_drew)); exact Kd.R_mono HO_8.out (fun _ hk => ⟨trivial, hk⟩)) hg hat); have n2_ := Aside0.mk (Kd.R_over' (by (with_reducible repeat (first | apply Kd.R_alloc | apply Kd.R_drewN | apply Kd.R_drew)); exact HO116.out) (Kd.R_typed (by (with_reducible repeat (first | apply Kd.R_alloc | apply Kd.R_drewN | apply Kd.R_drew)); exact HO_10.out)) (by decide) hg); have n3_ := Aside0.mk (hb); have n4_ := Aside0.mk (ho); clear HO_7; clear HO_8; clear HO116; clear HB; clear HO_10; have HO_7 := n0_; have HO_8 := n1_; have HO116 := n2_; have HB := n3_; have HO119 := n4_; clear n0_ n1_ n2_ n3_ n4_; clear ho hb hg hat; have p120 : 0 ≤ (x11_2 : Int) := of_decide_eq_true (by first | (with_reducible assumption) | assumption); have q120 : x11_2 < (l0.length : Int) := of_decide_eq_true (by first | (with_reducible assumption) | assumption); obtain ⟨ad120, e120, hx120_0⟩ := Kd.at_string HR0.out x11_2 p120 q120; obtain rfl : ad107 = ad120 := (by injection e120); replace hx120_0 := (HB.out.cell (World.block_lt_of_cell? w _ hx120_0)).trans hx120_0; replace p120 := eq_true p120; replace q120 := eq_true q120) | (at_builtin; refine print_append_str (w0 := w) w.heap.size rfl (.tmp 71) _ 24 9 5 rfl Try.underlying24 Try.underlying9 info5 (.slice Ao34 x7_2.length co34) x7_2 (rdOf ByteArray.empty l0 x11_2) rfl rfl ?aO ?aB ?aS ?aL ?_; (case aB => exact (by repeat (with_reducible first | exact HB.out | apply below_alloc | apply pw_below_drewN | apply below_drew1))); (case aO => exact (Kd.own_of_R (by (with_reducible repeat (first | apply Kd.R_alloc | apply Kd.R_drewN | apply Kd.R_drew)); exact HO_7.out))); (case aS => exact (below_size (by repeat (with_reducible first | exact HB.out | apply below_alloc | apply pw_below_drewN | apply below_drew1)))); (case aL => have := LMc19.out; omega); intro v122 w36 ho0 hb hg; have ho := Kd.R_of_own (h1 := fun _ => rfl) (ok := fun _ => True) ho0 (fun _ _ => trivial); clear ho0; have hat := True.intro; rw [← Ny121.out] at ho; change Kd.R (Kd.int .u8) 5 w36 w.heap.size (fun _ => True) v122 y121 at ho; have n0_ := Aside0.mk (Kd.R_over' (by (with_reducible repeat (first | apply Kd.R_alloc | apply Kd.R_drewN | apply Kd.R_drew)); exact HO_8.out) (Kd.R_typed (by (with_reducible repeat (first | apply Kd.R_alloc | apply Kd.R_drewN | apply Kd.R_drew)); exact HO_7.out)) (by decide) hg); have n1_ := Aside0.mk (Kd.R_over' (by (with_reducible repeat (first | apply Kd.R_alloc | apply Kd.R_drewN | apply Kd.R_drew)); exact HO116.out) (Kd.R_typed (by (with_reducible repeat (first | apply Kd.R_alloc | apply Kd.R_drewN | apply Kd.R_drew)); exact HO_7.out)) (by decide) hg); have n2_ := Aside0.mk (Kd.R_over' (by (with_reducible repeat (first | apply Kd.R_alloc | apply Kd.R_drewN | apply Kd.R_drew)); exact HO119.out) (Kd.R_typed (by (with_reducible repeat (first | apply Kd.R_alloc | apply Kd.R_drewN | apply Kd.R_drew)); exact HO_7.out)) (by decide) hg); have n3_ := Aside0.mk (hb); have n4_ := Aside0.mk (ho); clear HO_8; clear HO116; clear HO119; clear HB; clear HO_7; have HO_8 := n0_; have HO116 := n1_; have HO119 := n2_; have HB := n3_; have HO123 := n4_; clear n0_ n1_ n2_ n3_ n4_; clear ho hb hg hat) | ((with_reducible refine gate_builtin (b := .append) (xs := #[.tmp 76, .tmp 77]) rfl ?_); (try (refine gate_guard (by rfl) ?_; dsimp only)); at_builtin; refine Kd.R_append (Kd.int .u8) (w0 := w) w.heap.size rfl (.tmp 76) (.tmp 77) 24 5 (.int .u8 0) 1 rfl Try.underlying24 info5 rfl (by decide) (by omega) v122 y121 0 [.int .u8 0] (fun _ => True) (fun _ => False) rfl rfl ?aP (fun _ hk => hk.elim) ?aF ?aO ?aB ?aS ?aL ?_; (case aP => exact rfl); (case aB => exact (by repeat (with_reducible first | exact HB.out | apply below_alloc | apply pw_below_drewN | apply below_drew1))); (case aF => exact (fun _ _ => trivial)); (case aO => exact (by (with_reducible repeat (first | apply Kd.R_alloc | apply Kd.R_drewN | apply Kd.R_drew)); exact HO123.out)); (case aS => exact (below_size (by repeat (with_reducible first | exact HB.out | apply below_alloc | apply pw_below_drewN | apply below_drew1)))); (case aL => have := LMc20.out; omega); intro v125 w37 ho hb hg hat; rw [← Ny124.out] at ho; have n0_ := Aside0.mk (Kd.R_over' (by (with_reducible repeat (first | apply Kd.R_alloc | apply Kd.R_drewN | apply Kd.R_drew)); exact HO_8.out) (Kd.R_typed (by (with_reducible repeat (first | apply Kd.R_alloc | apply Kd.R_drewN | apply Kd.R_drew)); exact HO123.out)) (by decide) hg); have n1_ := Aside0.mk (Kd.R_over' (by (with_reducible repeat (first | apply Kd.R_alloc | apply Kd.R_drewN | apply Kd.R_drew)); exact HO116.out) (Kd.R_typed (by (with_reducible repeat (first | apply Kd.R_alloc | apply Kd.R_drewN | apply Kd.R_drew)); exact HO123.out)) (by decide) hg); have n2_ := Aside0.mk (Kd.R_over' (by (with_reducible repeat (first | apply Kd.R_alloc | apply Kd.R_drewN | apply Kd.R_drew)); exact HO119.out) (Kd.R_typed (by (with_reducible repeat (first | apply Kd.R_alloc | apply Kd.R_drewN | apply Kd.R_drew)); exact HO123.out)) (by decide) hg); have n3_ := Aside0.mk (hb); have n4_ := Aside0.mk (ho); clear HO_8; clear HO116; clear HO119; clear HB; clear HO123; have HO_8 := n0_; have HO116 := n1_; have HO119 := n2_; have HB := n3_; have HO126 := n4_; clear n0_ n1_ n2_ n3_ n4_; clear ho hb hg hat; obtain ⟨Ao38, co38, eo38⟩ := Kd.R_slice HO126.out; subst eo38; obtain ⟨Ao39, co39, eo39⟩ := Kd.R_slice HO119.out; subst eo39; have p127 : 0 ≤ (t112 : Int) := of_decide_eq_true (by first | (with_reducible assumption) | assumption); have q127 : t112 < (y117.length : Int) := of_decide_eq_true (by first | (with_reducible assumption) | assumption); obtain ⟨ad127, e127, hx127_0⟩ := Kd.at_int (Kd.R_reads' HO119.out).2.2 t112 p127 q127; cases e127; replace p127 := eq_true p127; replace q127 := eq_true q127) | ((with_reducible refine gate_builtin (b := .append) (xs := #[.tmp 82, .tmp 87]) rfl ?_); (try (refine gate_guard (by rfl) ?_; dsimp only)); at_builtin; refine Kd.R_append (Kd.int .i64) (w0 := w) w.heap.size rfl (.tmp 82) (.tmp 87) 28 3 (.int .i64 0) 8 rfl Try.underlying28 info3 rfl (by decide) (by omega) u8 x8_2 (rd y117 t112) [.int .i64 (rd y117 t112)] (fun k_ => some k_ ≠ (.slice (some ad127) y117.length co39 : Value).ownBlock) (fun _ => False) rfl rfl ?aP (fun _ hk => hk.elim) ?aF ?aO ?aB ?aS ?aL ?_; (case aP => exact rfl); (case aB => exact (by repeat (with_reducible first | exact HB.out | apply below_alloc | apply pw_below_drewN | apply below_drew1))); (case aF => exact (fun k_ hk => Kd.fresh' (Kd.R_lt (by (with_reducible repeat (first | apply Kd.R_alloc | apply Kd.R_drewN | apply Kd.R_drew)); exact HO119.out)) k_ hk)); (case aO => exact (by (with_reducible repeat (first | apply Kd.R_alloc | apply Kd.R_drewN | apply Kd.R_drew)); exact Kd.R_mono HO_8.out (fun _ hk => hk.2))); (case aS => exact (below_size (by repeat (with_reducible first | exact HB.out | apply below_alloc | apply pw_below_drewN | apply below_drew1)))); (case aL => have := LMc31.out; omega); intro v129 w40 ho hb hg hat; rw [← Ny128.out] at ho; have n0_ := Aside0.mk (Kd.R_over' (by (with_reducible repeat (first | apply Kd.R_alloc | apply Kd.R_drewN | apply Kd.R_drew)); exact HO116.out) (Kd.R_typed (by (with_reducible repeat (first | apply Kd.R_alloc | apply Kd.R_drewN | apply Kd.R_drew)); exact HO_8.out)) (by decide) hg); have n1_ := Aside0.mk (Kd.R_after (ok := (fun _ => True)) (by (with_reducible repeat (first | apply Kd.R_alloc | apply Kd.R_drewN | apply Kd.R_drew)); exact Kd.R_mono HO119.out (fun _ hk => ⟨trivial, hk⟩)) hg hat); have n2_ := Aside0.mk (Kd.R_over' (by (with_reducible repeat (first | apply Kd.R_alloc | apply Kd.R_drewN | apply Kd.R_drew)); exact HO126.out) (Kd.R_typed (by (with_reducible repeat (first | apply Kd.R_alloc | apply Kd.R_drewN | apply Kd.R_drew)); exact HO_8.out)) (by decide) hg); have n3_ := Aside0.mk (hb); have n4_ := Aside0.mk (ho); clear HO116; clear HO119; clear HO126; clear HB; clear HO_8; have HO116 := n0_; have HO119 := n1_; have HO126 := n2_; have HB := n3_; have HO130 := n4_; clear n0_ n1_ n2_ n3_ n4_; clear ho hb hg hat))
                   go_roundg k2
                   case measure => have := HK1.out; have := HK2.out; omega
                   case rel => exact ⟨(y124), (y128), (y114), (y117), (wrap64 (x11_2 + 1)), (by first | rfl | (simp; done) | (simp [*]; done) | (simp [show ∀ l_ : List UInt8, (l_ != []) = !l_.isEmpty from fun l_ => by cases l_ <;> rfl]; done) | (congr 1; refine congr (congrArg (Go.bits _ _) ?_) ?_ <;> omega)), H', ⟨by have := HK1.out; have := HK2.out; omega⟩, ⟨by (with_reducible repeat (first | apply Kd.R_alloc | apply Kd.R_drewN | apply Kd.R_drew)); exact HO126.out⟩, ⟨by (with_reducible repeat (first | apply Kd.R_alloc | apply Kd.R_drewN | apply Kd.R_drew)); exact HO130.out⟩, ⟨by (with_reducible repeat (first | apply Kd.R_alloc | apply Kd.R_drewN | apply Kd.R_drew)); exact HO116.out⟩, ⟨by (with_reducible repeat (first | apply Kd.R_alloc | apply Kd.R_drewN | apply Kd.R_drew)); exact Kd.R_mono HO119.out (fun _ hk => hk.2)⟩, ⟨by repeat (with_reducible first | exact HB.out | apply below_alloc | apply pw_below_drewN | apply below_drew1)⟩⟩
                  ·
                   rw [if_neg c31] at H
                   exact absurd H (by simp)
                 ·
                  rw [if_neg c30] at H
                  exact absurd H (by simp)
                ·
                 rw [if_neg c29] at H
                 exact absurd H (by simp)
              ·
               rw [if_neg c20] at H
               exact absurd H (by simp)
             ·
              rw [if_neg c19] at H
              exact absurd H (by simp)
            ·
             rw [if_neg c18] at H
             exact absurd H (by simp)
           ·
            rw [if_neg c17] at H
            exact absurd H (by simp)
          ·
           rw [if_neg c16] at H
           have c16b0 : (t112 == (x9_2.length : Int)) = false := beq_eq_false_iff_ne.mpr c16
           have c16b1 : (t112 != (x9_2.length : Int)) = true := bne_iff_ne.mpr c16
           by_cases c41 : 0 ≤ t112
           ·
            rw [if_pos c41] at H
            have c41b0 : decide (0 ≤ t112) = true := decide_eq_true c41
            clear c41
            by_cases c42 : t112 < (x10_2.length : Int)
            ·
             rw [if_pos c42] at H
             have c42b0 : decide (t112 < (x10_2.length : Int)) = true := decide_eq_true c42
             clear c42
             by_cases c43 : x8_2.length < 17592186044416
             ·
              rw [if_pos c43] at H
              have LMc43 := Aside0.mk c43
              clear c43
              obtain ⟨y132, hy132⟩ : ∃ y_ : List Int, y_ = (x8_2 ++ [rd x10_2 t112]) := ⟨_, rfl⟩
              replace H : (gangwayref08_Strings.l1 k2 l0 x7_2 y132 x9_2 x10_2 (wrap64 (x11_2 + 1))) = some (r1, r2, r3) := by first | (rw [hy132]; with_reducible exact H) | (have H2_ := (Option.bind_some _ _).symm.trans H; rw [hy132]; with_reducible exact H2_) | (have H2_ := (Option.bind_some _ _).symm.trans H; with_reducible exact H2_) | with_reducible exact H | (rw [hy132]; exact H) | exact H
              have Ny132 := Aside0.mk hy132
              clear hy132
              have H' := Aside0.mk H
              clear H
              have p107 : 0 ≤ (x11_2 : Int) := of_decide_eq_true (by first | (with_reducible assumption) | assumption)
              have q107 : x11_2 < (l0.length : Int) := of_decide_eq_true (by first | (with_reducible assumption) | assumption)
              obtain ⟨ad107, e107, hx107_0⟩ := Kd.at_string HR0.out x11_2 p107 q107
              cases e107
              replace hx107_0 := (HB.out.cell (World.block_lt_of_cell? w _ hx107_0)).trans hx107_0
              replace p107 := eq_true p107
              replace q107 := eq_true q107
              have p111 : 0 ≤ (x11_2 : Int) := of_decide_eq_true (by first | (with_reducible assumption) | assumption)
              have q111 : x11_2 < (l0.length : Int) := of_decide_eq_true (by first | (with_reducible assumption) | assumption)
              obtain ⟨ad111, e111, hx111_0⟩ := Kd.at_string HR0.out x11_2 p111 q111
              obtain rfl : ad107 = ad111 := (by injection e111)
              replace hx111_0 := (HB.out.cell (World.block_lt_of_cell? w _ hx111_0)).trans hx111_0
              replace p111 := eq_true p111
              replace q111 := eq_true q111
              obtain ⟨Ao44, co44, eo44⟩ := Kd.R_slice HO_9.out
              subst eo44
              go_wp2_with (first | ((with_reducible refine gate_callee (f := 30) rfl ?_); refine goesL_ (some 54) rfl rfl Try.func30 (by kernel_rfl) rfl #[.slice Ao44 x9_2.length co44, .string (rdOf ByteArray.empty l0 x11_2)] rfl (by (try simp only [List.map_toArray, List.map_cons, List.map_nil]); first | done | rfl | (simp only [List.length_drop, List.length_take]; rfl)) ?_; (with_reducible refine (gangwayref08_place.calls k2 _ _ x9_2 (rdOf ByteArray.empty l0 x11_2) t112 _ ?side1 ?side2 A15.out).mono ?_); (case side1 => repeat (first | exact (Kd.R_reads' HO_9.out).2.2 | (with_reducible refine Kd.C_alloc ?_ _) | (with_reducible refine Kd.C_drewN ?_ _) | (with_reducible refine Kd.C_drew ?_))); (case side2 => exact (Kd.R_reads' HO_9.out).2.1); rintro e w' ⟨rfl, ⟨nd, rfl⟩⟩; refine ⟨_, rfl, ?_⟩; obtain ⟨Ao45, co45, eo45⟩ := Kd.R_slice HO_10.out; subst eo45; have p131 : 0 ≤ (t112 : Int) := of_decide_eq_true (by first | (with_reducible assumption) | assumption); have q131 : t112 < (x10_2.length : Int) := of_decide_eq_true (by first | (with_reducible assumption) | assumption); obtain ⟨ad131, e131, hx131_0⟩ := Kd.at_int (Kd.R_reads' HO_10.out).2.2 t112 p131 q131; cases e131; replace p131 := eq_true p131; replace q131 := eq_true q131) | ((with_reducible refine gate_builtin (b := .append) (xs := #[.tmp 82, .tmp 87]) rfl ?_); (try (refine gate_guard (by rfl) ?_; dsimp only)); at_builtin; refine Kd.R_append (Kd.int .i64) (w0 := w) w.heap.size rfl (.tmp 82) (.tmp 87) 28 3 (.int .i64 0) 8 rfl Try.underlying28 info3 rfl (by decide) (by omega) u8 x8_2 (rd x10_2 t112) [.int .i64 (rd x10_2 t112)] (fun k_ => some k_ ≠ (.slice (some ad131) x10_2.length co45 : Value).ownBlock) (fun _ => False) rfl rfl ?aP (fun _ hk => hk.elim) ?aF ?aO ?aB ?aS ?aL ?_; (case aP => exact rfl); (case aB => exact (by repeat (with_reducible first | exact HB.out | apply below_alloc | apply pw_below_drewN | apply below_drew1))); (case aF => exact (fun k_ hk => Kd.fresh' (Kd.R_lt (by (with_reducible repeat (first | apply Kd.R_alloc | apply Kd.R_drewN | apply Kd.R_drew)); exact HO_10.out)) k_ hk)); (case aO => exact (by (with_reducible repeat (first | apply Kd.R_alloc | apply Kd.R_drewN | apply Kd.R_drew)); exact HO_8.out)); (case aS => exact (below_size (by repeat (with_reducible first | exact HB.out | apply below_alloc | apply pw_below_drewN | apply below_drew1)))); (case aL => have := LMc43.out; omega); intro v133 w46 ho hb hg hat; rw [← Ny132.out] at ho; have n0_ := Aside0.mk (Kd.R_over' (by (with_reducible repeat (first | apply Kd.R_alloc | apply Kd.R_drewN | apply Kd.R_drew)); exact HO_7.out) (Kd.R_typed (by (with_reducible repeat (first | apply Kd.R_alloc | apply Kd.R_drewN | apply Kd.R_drew)); exact HO_8.out)) (by decide) hg); have n1_ := Aside0.mk (Kd.R_over' (by (with_reducible repeat (first | apply Kd.R_alloc | apply Kd.R_drewN | apply Kd.R_drew)); exact HO_9.out) (Kd.R_typed (by (with_reducible repeat (first | apply Kd.R_alloc | apply Kd.R_drewN | apply Kd.R_drew)); exact HO_8.out)) (by decide) hg); have n2_ := Aside0.mk (Kd.R_after (ok := (fun _ => True)) (by (with_reducible repeat (first | apply Kd.R_alloc | apply Kd.R_drewN | apply Kd.R_drew)); exact Kd.R_mono HO_10.out (fun _ hk => ⟨trivial, hk⟩)) hg hat); have n3_ := Aside0.mk (hb); have n4_ := Aside0.mk (ho); clear HO_7; clear HO_9; clear HO_10; clear HB; clear HO_8; have HO_7 := n0_; have HO_9 := n1_; have HO_10 := n2_; have HB := n3_; have HO134 := n4_; clear n0_ n1_ n2_ n3_ n4_; clear ho hb hg hat))
              go_roundg k2
              case measure => have := HK1.out; have := HK2.out; omega
              case rel => exact ⟨(x7_2), (y132), (x9_2), (x10_2), (wrap64 (x11_2 + 1)), (by first | rfl | (simp; done) | (simp [*]; done) | (simp [show ∀ l_ : List UInt8, (l_ != []) = !l_.isEmpty from fun l_ => by cases l_ <;> rfl]; done) | (congr 1; refine congr (congrArg (Go.bits _ _) ?_) ?_ <;> omega)), H', ⟨by have := HK1.out; have := HK2.out; omega⟩, ⟨by (with_reducible repeat (first | apply Kd.R_alloc | apply Kd.R_drewN | apply Kd.R_drew)); exact HO_7.out⟩, ⟨by (with_reducible repeat (first | apply Kd.R_alloc | apply Kd.R_drewN | apply Kd.R_drew)); exact HO134.out⟩, ⟨by (with_reducible repeat (first | apply Kd.R_alloc | apply Kd.R_drewN | apply Kd.R_drew)); exact HO_9.out⟩, ⟨by (with_reducible repeat (first | apply Kd.R_alloc | apply Kd.R_drewN | apply Kd.R_drew)); exact Kd.R_mono HO_10.out (fun _ hk => hk.2)⟩, ⟨by repeat (with_reducible first | exact HB.out | apply below_alloc | apply pw_below_drewN | apply below_drew1)⟩⟩
             ·
              rw [if_neg c43] at H
              exact absurd H (by simp)
            ·
             rw [if_neg c42] at H
             exact absurd H (by simp)
           ·
            rw [if_neg c41] at H
            exact absurd H (by simp)
        ·
         rw [if_neg c11] at H
         exact absurd H (by simp)
       ·
        rw [if_neg c10] at H
        have c10b0 : decide (x11_2 < (l0.length : Int)) = false := decide_eq_false c10
        clear c10
        simp only [Option.some.injEq, Prod.mk.injEq] at H
        obtain ⟨rfl, rfl, rfl⟩ := H
        go_wp2
        go_ret3
        exact ⟨_, _, rfl, by (with_reducible repeat (first | apply Kd.R_alloc | apply Kd.R_drewN | apply Kd.R_drew)); exact HO_7.out, by (with_reducible repeat (first | apply Kd.R_alloc | apply Kd.R_drewN | apply Kd.R_drew)); exact Kd.R_mono HO_8.out (fun _ hk => trivial), by repeat (with_reducible first | exact HB.out | apply below_alloc | apply pw_below_drewN | apply below_drew1)⟩
end Go.Proofs.Ytejdnanhnkjaoaa.G
end
section
namespace Go.Proofs.Ytejdnanhnkjaoaa.G
open Go.RowKit Go.Proofs.YtejdnanhnkjaoaaW.PrintWords Go.Proofs.YtejdnanhnkjaoaaW.PrintLast Go.Proofs.YtejdnanhnkjaoaaW.PrintMore
attribute [local go_sem] max2_int min2_int max_two min_two max_three min_three max_four min_four   -- for this text's walks alone
set_option linter.unusedVariables false
set_option linter.unusedSimpArgs false
def gangwayref08_named.l0 : Nat → List ByteArray → Int → Option (Bool)
 | 0, _, _ => none
 | k + 1, x0, x3 => if x3 < (x0.length : Int) then (if 0 ≤ x3 then (if (rdOf ByteArray.empty x0 x3).toList = ([] : List UInt8) then (some false) else (if (rdOf ByteArray.empty x0 x3).toList = ([42] : List UInt8) then (some false) else ((gangwayref08_zero.f k (rdOf ByteArray.empty x0 x3)).bind fun t104 => (if t104 = true then (some false) else ((gangwayref08_place.f k x0 (rdOf ByteArray.empty x0 x3)).bind fun t106 => (if t106 < x3 then (some false) else (gangwayref08_named.l0 k x0 (wrap64 (x3 + 1))))))))) else (none)) else (some true)
def gangwayref08_named.f (k : Nat) (l0 : List ByteArray) : Option (Bool) := gangwayref08_named.l0 k l0 0
theorem gangwayref08_named.mono_l : ∀ k, (∀ y0 y1, LeO (gangwayref08_named.l0 k y0 y1) (gangwayref08_named.l0 (k + 1) y0 y1))
 | 0 => fun _ _ r h => by simp [gangwayref08_named.l0] at h
 | k + 1 => by
  have ih0 := gangwayref08_named.mono_l k
  ·
   intro y0 y1
   unfold gangwayref08_named.l0
   repeat' first
   | (with_reducible exact ih0 _ _)
   | (with_reducible exact gangwayref08_place.mono _ _ _)
   | (with_reducible exact gangwayref08_zero.mono _ _)
   | (with_reducible exact LeO.refl _)
   | (with_reducible exact LeO.none _)
   | (with_reducible refine LeO.ite ?_ ?_)
   | (with_reducible refine LeO.bind ?_ (fun _ => ?_))
   | exact ih0 _ _
   | exact gangwayref08_place.mono _ _ _
   | exact gangwayref08_zero.mono _ _
   | exact LeO.none _
   | refine LeO.ite ?_ ?_
   | refine LeO.bind ?_ (fun _ => ?_)
theorem gangwayref08_named.mono : ∀ a0 k, LeO (gangwayref08_named.f k a0) (gangwayref08_named.f (k + 1) a0) := by
 intro a0 k
 have ih0 := gangwayref08_named.mono_l k
 unfold gangwayref08_named.f
 repeat' first
   | (with_reducible exact ih0 _ _)
   | (with_reducible exact gangwayref08_place.mono _ _ _)
   | (with_reducible exact gangwayref08_zero.mono _ _)
   | (with_reducible exact LeO.refl _)
   | (with_reducible exact LeO.none _)
   | (with_reducible refine LeO.ite ?_ ?_)
   | (with_reducible refine LeO.bind ?_ (fun _ => ?_))
   | exact ih0 _ _
   | exact gangwayref08_place.mono _ _ _
   | exact gangwayref08_zero.mono _ _
   | exact LeO.none _
   | refine LeO.ite ?_ ?_
   | refine LeO.bind ?_ (fun _ => ?_)
set_option maxHeartbeats 8000000 in
set_option maxRecDepth 100000 in
theorem gangwayref08_named.calls (k : Nat) (A0 : Option Addr) (c0 : Nat) (l0 : List ByteArray) (r : Bool) (w : World) (hr0 : Kd.C Kd.string w A0 l0.length l0) (hc0 : l0.length ≤ c0) (h : gangwayref08_named.f k l0 = some r) :
  Calls Try.prog 40 #[.slice A0 l0.length c0] w fun e w' => e = .returned (.bool r) ∧ Drawn0 w w' := by
 have HR0 := Aside0.mk hr0
 have HC0 := Aside0.mk hc0
 clear hr0 hc0
 have H : (gangwayref08_named.l0 k l0 0) = some r := h
 clear h
 have H' := Aside0.mk H
 clear H
 go_enter Try.func40, Try.ntmps40
 go_wp2
 go_loopg [3] k (fun kq v3 w' => ∃ (x3_1 : Int), v3 = .int .i64 x3_1 ∧ Aside0 (gangwayref08_named.l0 kq l0 x3_1 = some r) ∧ Aside0 (kq ≤ k) ∧ Drawn0 w w')
 case atStart => exact ⟨(0), (by first | rfl | (simp; done) | (simp [*]; done) | (simp [show ∀ l_ : List UInt8, (l_ != []) = !l_.isEmpty from fun l_ => by cases l_ <;> rfl]; done) | (congr 1; refine congr (congrArg (Go.bits _ _) ?_) ?_ <;> omega)), H', ⟨Nat.le_refl _⟩, by repeat (first | exact Drawn0.refl _ | apply Drawn0.step)⟩
 case round =>
  clear H'
  obtain ⟨x3_1, rfl, HA, HK1, ⟨m1, rfl⟩⟩ := hrel
  cases gk with
  | zero => exact absurd HA.out (by simp [gangwayref08_named.l0])
  | succ k1 =>
   have H := HA.out
   clear HA
   simp only [gangwayref08_named.l0] at H
   by_cases c2 : x3_1 < (l0.length : Int)
   ·
    rw [if_pos c2] at H
    have c2b0 : decide (x3_1 < (l0.length : Int)) = true := decide_eq_true c2
    clear c2
    by_cases c3 : 0 ≤ x3_1
    ·
     rw [if_pos c3] at H
     have c3b0 : decide (0 ≤ x3_1) = true := decide_eq_true c3
     clear c3
     by_cases c4 : (rdOf ByteArray.empty l0 x3_1).toList = ([] : List UInt8)
     ·
      rw [if_pos c4] at H
      have c4b0 : ((rdOf ByteArray.empty l0 x3_1).toList == ([] : List UInt8)) = true := beq_iff_eq.mpr c4
      have c4b1 : ((rdOf ByteArray.empty l0 x3_1).toList != ([] : List UInt8)) = false := bne_eq_false_iff_eq.mpr c4
      clear c4
      obtain rfl := Option.some.inj H
      have p101 : 0 ≤ (x3_1 : Int) := of_decide_eq_true (by first | (with_reducible assumption) | assumption)
      have q101 : x3_1 < (l0.length : Int) := of_decide_eq_true (by first | (with_reducible assumption) | assumption)
      obtain ⟨ad101, e101, hx101_0⟩ := Kd.at_string HR0.out x3_1 p101 q101
      cases e101
      replace p101 := eq_true p101
      replace q101 := eq_true q101
      go_wp2
      go_ret
      exact ⟨by first | rfl | (simp; done) | (simp [*]; done), by repeat (first | exact Drawn0.refl _ | apply Drawn0.step)⟩
     ·
      rw [if_neg c4] at H
      have c4b0 : ((rdOf ByteArray.empty l0 x3_1).toList == ([] : List UInt8)) = false := beq_eq_false_iff_ne.mpr c4
      have c4b1 : ((rdOf ByteArray.empty l0 x3_1).toList != ([] : List UInt8)) = true := bne_iff_ne.mpr c4
      by_cases c5 : (rdOf ByteArray.empty l0 x3_1).toList = ([42] : List UInt8)
      ·
       rw [if_pos c5] at H
       have c5b0 : ((rdOf ByteArray.empty l0 x3_1).toList == ([42] : List UInt8)) = true := beq_iff_eq.mpr c5
       have c5b1 : ((rdOf ByteArray.empty l0 x3_1).toList != ([42] : List UInt8)) = false := bne_eq_false_iff_eq.mpr c5
       clear c5
       obtain rfl := Option.some.inj H
       have p101 : 0 ≤ (x3_1 : Int) := of_decide_eq_true (by first | (with_reducible assumption) | assumption)
       have q101 : x3_1 < (l0.length : Int) := of_decide_eq_true (by first | (with_reducible assumption) | assumption)
       obtain ⟨ad101, e101, hx101_0⟩ := Kd.at_string HR0.out x3_1 p101 q101
       cases e101
       replace p101 := eq_true p101
       replace q101 := eq_true q101
       have p102 : 0 ≤ (x3_1 : Int) := of_decide_eq_true (by first | (with_reducible assumption) | assumption)
       have q102 : x3_1 < (l0.length : Int) := of_decide_eq_true (by first | (with_reducible assumption) | assumption)
       obtain ⟨ad102, e102, hx102_0⟩ := Kd.at_string HR0.out x3_1 p102 q102
       obtain rfl : ad101 = ad102 := (by injection e102)
       replace p102 := eq_true p102
       replace q102 := eq_true q102
       go_wp2
       go_ret
       exact ⟨by first | rfl | (simp; done) | (simp [*]; done), by repeat (first | exact Drawn0.refl _ | apply Drawn0.step)⟩
      ·
       rw [if_neg c5] at H
       have c5b0 : ((rdOf ByteArray.empty l0 x3_1).toList == ([42] : List UInt8)) = false := beq_eq_false_iff_ne.mpr c5
       have c5b1 : ((rdOf ByteArray.empty l0 x3_1).toList != ([42] : List UInt8)) = true := bne_iff_ne.mpr c5
       replace H := Option.bind_eq_some_iff.mp H
       obtain ⟨t104, A60, H⟩ := H
       replace H : (if t104 = true then (some false) else ((gangwayref08_place.f k1 l0 (rdOf ByteArray.empty l0 x3_1)).bind fun t106 => (if t106 < x3_1 then (some false) else (gangwayref08_named.l0 k1 l0 (wrap64 (x3_1 + 1)))))) = some r := H
       have A6 := Aside0.mk A60
       clear A60
       by_cases c7 : t104 = true
       ·
        subst c7
        have H1 : (some false) = some r := by rw [if_pos rfl] at H; exact H
        clear H
        have H := H1
        clear H1
        obtain rfl := Option.some.inj H
        have p101 : 0 ≤ (x3_1 : Int) := of_decide_eq_true (by first | (with_reducible assumption) | assumption)
        have q101 : x3_1 < (l0.length : Int) := of_decide_eq_true (by first | (with_reducible assumption) | assumption)
        obtain ⟨ad101, e101, hx101_0⟩ := Kd.at_string HR0.out x3_1 p101 q101
        cases e101
        replace p101 := eq_true p101
        replace q101 := eq_true q101
        have p102 : 0 ≤ (x3_1 : Int) := of_decide_eq_true (by first | (with_reducible assumption) | assumption)
        have q102 : x3_1 < (l0.length : Int) := of_decide_eq_true (by first | (with_reducible assumption) | assumption)
        obtain ⟨ad102, e102, hx102_0⟩ := Kd.at_string HR0.out x3_1 p102 q102
        obtain rfl : ad101 = ad102 := (by injection e102)
        replace p102 := eq_true p102
        replace q102 := eq_true q102
        have p103 : 0 ≤ (x3_1 : Int) := of_decide_eq_true (by first | (with_reducible assumption) | assumption)
        have q103 : x3_1 < (l0.length : Int) := of_decide_eq_true (by first | (with_reducible assumption) | assumption)
        obtain ⟨ad103, e103, hx103_0⟩ := Kd.at_string HR0.out x3_1 p103 q103
        obtain rfl : ad101 = ad103 := (by injection e103)
        replace p103 := eq_true p103
        replace q103 := eq_true q103
        go_wp2_with (first | (go_at_call 29; (with_reducible refine (gangwayref08_zero.calls k1 (rdOf ByteArray.empty l0 x3_1) true _ A6.out).mono ?_); rintro e w' ⟨rfl, ⟨nd, rfl⟩⟩))
        go_ret
        exact ⟨by first | rfl | (simp; done) | (simp [*]; done), by repeat (first | exact Drawn0.refl _ | apply Drawn0.step)⟩
       ·
        replace c7 := Bool.eq_false_iff.mpr c7
        subst c7
        have H1 : ((gangwayref08_place.f k1 l0 (rdOf ByteArray.empty l0 x3_1)).bind fun t106 => (if t106 < x3_1 then (some false) else (gangwayref08_named.l0 k1 l0 (wrap64 (x3_1 + 1))))) = some r := by rw [if_neg (show ¬ (false = true) by decide)] at H; exact H
        clear H
        have H := H1
        clear H1
        replace H := Option.bind_eq_some_iff.mp H
        obtain ⟨t106, A80, H⟩ := H
        replace H : (if t106 < x3_1 then (some false) else (gangwayref08_named.l0 k1 l0 (wrap64 (x3_1 + 1)))) = some r := H
        have A8 := Aside0.mk A80
        clear A80
        by_cases c9 : t106 < x3_1
        ·
         rw [if_pos c9] at H
         have c9b0 : decide (t106 < x3_1) = true := decide_eq_true c9
         clear c9
         obtain rfl := Option.some.inj H
         have p101 : 0 ≤ (x3_1 : Int) := of_decide_eq_true (by first | (with_reducible assumption) | assumption)
         have q101 : x3_1 < (l0.length : Int) := of_decide_eq_true (by first | (with_reducible assumption) | assumption)
         obtain ⟨ad101, e101, hx101_0⟩ := Kd.at_string HR0.out x3_1 p101 q101
         cases e101
         replace p101 := eq_true p101
         replace q101 := eq_true q101
         have p102 : 0 ≤ (x3_1 : Int) := of_decide_eq_true (by first | (with_reducible assumption) | assumption)
         have q102 : x3_1 < (l0.length : Int) := of_decide_eq_true (by first | (with_reducible assumption) | assumption)
         obtain ⟨ad102, e102, hx102_0⟩ := Kd.at_string HR0.out x3_1 p102 q102
         obtain rfl : ad101 = ad102 := (by injection e102)
         replace p102 := eq_true p102
         replace q102 := eq_true q102
         have p103 : 0 ≤ (x3_1 : Int) := of_decide_eq_true (by first | (with_reducible assumption) | assumption)
         have q103 : x3_1 < (l0.length : Int) := of_decide_eq_true (by first | (with_reducible assumption) | assumption)
         obtain ⟨ad103, e103, hx103_0⟩ := Kd.at_string HR0.out x3_1 p103 q103
         obtain rfl : ad101 = ad103 := (by injection e103)
         replace p103 := eq_true p103
         replace q103 := eq_true q103
         go_wp2_with (first | (go_at_call 29; (with_reducible refine (gangwayref08_zero.calls k1 (rdOf ByteArray.empty l0 x3_1) false _ A6.out).mono ?_); rintro e w' ⟨rfl, ⟨nd, rfl⟩⟩; have p105 : 0 ≤ (x3_1 : Int) := of_decide_eq_true (by first | (with_reducible assumption) | assumption); have q105 : x3_1 < (l0.length : Int) := of_decide_eq_true (by first | (with_reducible assumption) | assumption); obtain ⟨ad105, e105, hx105_0⟩ := Kd.at_string HR0.out x3_1 p105 q105; obtain rfl : ad101 = ad105 := (by injection e105); replace p105 := eq_true p105; replace q105 := eq_true q105) | (go_at_call 30; (with_reducible refine (gangwayref08_place.calls k1 _ _ l0 (rdOf ByteArray.empty l0 x3_1) t106 _ ?side1 ?side2 A8.out).mono ?_); (case side1 => repeat (first | exact HR0.out | (with_reducible refine Kd.C_alloc ?_ _) | (with_reducible refine Kd.C_drewN ?_ _) | (with_reducible refine Kd.C_drew ?_))); (case side2 => exact HC0.out); rintro e w' ⟨rfl, ⟨nd, rfl⟩⟩))
         go_ret
         exact ⟨by first | rfl | (simp; done) | (simp [*]; done), by repeat (first | exact Drawn0.refl _ | apply Drawn0.step)⟩
        ·
         rw [if_neg c9] at H
         have c9b0 : decide (t106 < x3_1) = false := decide_eq_false c9
         clear c9
         have H' := Aside0.mk H
         clear H
         have p101 : 0 ≤ (x3_1 : Int) := of_decide_eq_true (by first | (with_reducible assumption) | assumption)
         have q101 : x3_1 < (l0.length : Int) := of_decide_eq_true (by first | (with_reducible assumption) | assumption)
         obtain ⟨ad101, e101, hx101_0⟩ := Kd.at_string HR0.out x3_1 p101 q101
         cases e101
         replace p101 := eq_true p101
         replace q101 := eq_true q101
         have p102 : 0 ≤ (x3_1 : Int) := of_decide_eq_true (by first | (with_reducible assumption) | assumption)
         have q102 : x3_1 < (l0.length : Int) := of_decide_eq_true (by first | (with_reducible assumption) | assumption)
         obtain ⟨ad102, e102, hx102_0⟩ := Kd.at_string HR0.out x3_1 p102 q102
         obtain rfl : ad101 = ad102 := (by injection e102)
         replace p102 := eq_true p102
         replace q102 := eq_true q102
         have p103 : 0 ≤ (x3_1 : Int) := of_decide_eq_true (by first | (with_reducible assumption) | assumption)
         have q103 : x3_1 < (l0.length : Int) := of_decide_eq_true (by first | (with_reducible assumption) | assumption)
         obtain ⟨ad103, e103, hx103_0⟩ := Kd.at_string HR0.out x3_1 p103 q103
         obtain rfl : ad101 = ad103 := (by injection e103)
         replace p103 := eq_true p103
         replace q103 := eq_true q103
         go_wp2_with (first | (go_at_call 29; (with_reducible refine (gangwayref08_zero.calls k1 (rdOf ByteArray.empty l0 x3_1) false _ A6.out).mono ?_); rintro e w' ⟨rfl, ⟨nd, rfl⟩⟩; have p105 : 0 ≤ (x3_1 : Int) := of_decide_eq_true (by first | (with_reducible assumption) | assumption); have q105 : x3_1 < (l0.length : Int) := of_decide_eq_true (by first | (with_reducible assumption) | assumption); obtain ⟨ad105, e105, hx105_0⟩ := Kd.at_string HR0.out x3_1 p105 q105; obtain rfl : ad101 = ad105 := (by injection e105); replace p105 := eq_true p105; replace q105 := eq_true q105) | (go_at_call 30; (with_reducible refine (gangwayref08_place.calls k1 _ _ l0 (rdOf ByteArray.empty l0 x3_1) t106 _ ?side1 ?side2 A8.out).mono ?_); (case side1 => repeat (first | exact HR0.out | (with_reducible refine Kd.C_alloc ?_ _) | (with_reducible refine Kd.C_drewN ?_ _) | (with_reducible refine Kd.C_drew ?_))); (case side2 => exact HC0.out); rintro e w' ⟨rfl, ⟨nd, rfl⟩⟩))
         go_roundg k1
         case measure => have := HK1.out; omega
         case rel => exact ⟨(wrap64 (x3_1 + 1)), (by first | rfl | (simp; done) | (simp [*]; done) | (simp [show ∀ l_ : List UInt8, (l_ != []) = !l_.isEmpty from fun l_ => by cases l_ <;> rfl]; done) | (congr 1; refine congr (congrArg (Go.bits _ _) ?_) ?_ <;> omega)), H', ⟨by have := HK1.out; omega⟩, by repeat (first | exact Drawn0.refl _ | apply Drawn0.step)⟩
    ·
     rw [if_neg c3] at H
     exact absurd H (by simp)
   ·
    rw [if_neg c2] at H
    have c2b0 : decide (x3_1 < (l0.length : Int)) = false := decide_eq_false c2
    clear c2
    obtain rfl := Option.some.inj H
    go_wp2
    go_ret
    exact ⟨by first | rfl | (simp; done) | (simp [*]; done), by repeat (first | exact Drawn0.refl _ | apply Drawn0.step)⟩
end Go.Proofs.Ytejdnanhnkjaoaa.G
end
