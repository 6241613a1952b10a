/- Each theorem here says what a call of one Go function returns, and what it leaves of the memory, for the arguments that its hypotheses name. Printed by a driver of this session over the kit's printer; what stands behind GIVENBYHAND is this session's own text. -/
import Derived.Test.YtejdnanhnkjaoaaG0
import Derived.Test.YtejdnanhnkjaoaaGfM
import Derived.Test.YtejdnanhnkjaoaaGf39
import Derived.Test.YtejdnanhnkjaoaaMapInc
import Derived.Test.YtejdnanhnkjaoaaSymHave
import Derived.WideKeyEntry
import Derived.DeepKeys4
import Derived.Great.Frames
namespace Go.Proofs.Ytejdnanhnkjaoaa.G
open Go.RowKit Go.Proofs.YtejdnanhnkjaoaaW.PrintWords Go.Proofs.YtejdnanhnkjaoaaW.PrintLast Go.Proofs.YtejdnanhnkjaoaaW.PrintMore
attribute [local go_sem] max2_int min2_int max_two min_two max_three min_three max_four min_four   -- for this text's walks alone
set_option linter.unusedVariables false
set_option linter.unusedSimpArgs false

/-! ### symtab_Check: function 23 -/
-- GIVENBYHAND Derived.Test.@N@MapInc Derived.Test.@N@SymHave Derived.WideKeyEntry Derived.DeepKeys4 Derived.Great.Frames
/-- is the section's name at place i wrong? -/
def secBad (l : List ByteArray) (i : Nat) : Bool := (rdOf ByteArray.empty l (i : Int)).toList == [] || (rdOf ByteArray.empty l (i : Int)).toList == [42] || !Sym.plainOf (rdOf ByteArray.empty l (i : Int)) || Sym.among (l.take i) (rdOf ByteArray.empty l (i : Int))
/-- what a symbol is met by -/
def symKey (x : S58) : List UInt8 × Int := (x.f0.data.toList, if 1 < x.f4 then 1 else x.f4)
/-- is the symbol at place i wrong, or met before? -/
def symBad (l : List S58) (secs : List ByteArray) (i : Nat) : Bool := !Sym.rightOf (rd_T58 l (i : Int)) secs || ((rd_T58 l (i : Int)).f0.toList != [] && decide (0 < ((l.take i).map symKey).count (symKey (rd_T58 l (i : Int)))))
def longName (l : List S58) (i : Nat) : Bool := decide ((rd_T58 l (i : Int)).f0.size > 255)
def longSec (l : List ByteArray) (i : Nat) : Bool := decide ((rdOf ByteArray.empty l (i : Int)).size > 255)
def someOf (p : Nat → Bool) (n : Nat) : Bool := (List.range n).any p
theorem someOf_true {p : Nat → Bool} {n i : Nat} (hi : i < n) (h : p i = true) : someOf p n = true := List.any_eq_true.2 ⟨i, List.mem_range.2 hi, h⟩
theorem someOf_false {p : Nat → Bool} {n : Nat} (h : ∀ i, i < n → p i = false) : someOf p n = false := List.any_eq_false.2 fun i hi => by rw [h i (List.mem_range.1 hi)]; decide
theorem none_succ {p : Nat → Bool} {n : Nat} (h : ∀ i, i < n → p i = false) (hn : p n = false) : ∀ i, i < n + 1 → p i = false := fun i hi => by
  rcases Nat.lt_or_ge i n with c | c
  · exact h i c
  · obtain rfl : i = n := by omega
    exact hn
def symCheck (l : List S58) (secs : List ByteArray) : Int :=
  if l.length > 2000 ∨ secs.length > 64 then 6
  else if someOf (longName l) l.length || someOf (longSec secs) secs.length then 6
  else if someOf (secBad secs) secs.length then 80
  else if someOf (symBad l secs) l.length then 80 else 0
def symtab_Check.f (l0 : List S58) (l1 : List ByteArray) : Option Int := some (symCheck l0 l1)
theorem symtab_Check.laid : laidOutB Try.prog = true := by kernel_rfl
theorem symtab_Check.keys : WideMaps.KeyLaw Try.prog 75 := deep_law_laid symtab_Check.laid (m := 2) (by omega) (of_decide_eq_true (by kernel_rfl)) (by kernel_rfl) (by rw [Try.underlying75])
theorem symtab_Check.zero (w : World) : (zeroValue 3).run Try.prog w = .ok (.int .i64 0) w := by kernel_rfl
theorem symtab_Check.key (s : ByteArray) (a : Int) (hs : s.size ≤ 255) (h0 : 0 ≤ a) (h1 : a ≤ 1) : ∃ kl, keyOf Try.prog 75 (.agg #[.string s, .int .i64 a]) = some kl := by
  have hk : Try.prog.keyType 75 = true := by kernel_rfl
  have hc : Try.prog.cellsOf 75 = 2 := by kernel_rfl
  have hc9 : Try.prog.cellsOf 9 = 1 := by kernel_rfl
  have hc3 : Try.prog.cellsOf 3 = 1 := by kernel_rfl
  have hsz : ∃ d, Try.prog.types.size = d + 1 := ⟨Try.prog.types.size - 1, by
    have : 1 ≤ Try.prog.types.size := of_decide_eq_true (by kernel_rfl)
    omega⟩
  obtain ⟨d, hd⟩ := hsz
  have hstr : Try.prog.keyLits (d + 1) 9 [.string s] = some [.string s.data.toList] := by
    simp only [Program.keyLits, Try.underlying9]
    rw [if_pos (by simp only [maxLen]; omega)]
  have hint : Try.prog.keyLits (d + 1) 3 [.int .i64 a] = some [.int .i64 a] := by
    simp only [Program.keyLits, Try.underlying3]
    rw [if_pos ⟨trivial, Own.wf64 (by omega) (by omega)⟩]
  have hall : Try.prog.keyLits (d + 1 + 1) 75 [.string s, .int .i64 a] = some [.string s.data.toList, .int .i64 a] := by
    unfold Program.keyLits
    rw [Try.underlying75]
    simp [hc, hc9, hc3, hstr, hint]
  unfold keyOf
  rw [Try.underlying75]
  simp only [hk, Value.formed, Try.underlying75, hc, Value.cells, hd]
  simp [hall]
theorem symtab_Check.cells1 (w : World) (cs1 cs2 : Array Value) (t1 t2 : TypeId) (j : Nat) (v : Value) (h : cs1[j]? = some v) : ((w.alloc (.cells cs1 t1)).alloc (.cells cs2 t2)).cell? ⟨w.heap.size, j, none⟩ = some v := by
  have h1 : ((w.alloc (.cells cs1 t1)).alloc (.cells cs2 t2)).heap[w.heap.size]? = some (.cells cs1 t1) := by
    rw [(MapKept.heap_alloc _ _).2 _ (by simp), (MapKept.heap_alloc w _).1]
  unfold World.cell?
  rw [h1]
  exact h
theorem symtab_Check.cells2 (w : World) (cs1 cs2 : Array Value) (t1 t2 : TypeId) (j : Nat) (v : Value) (h : cs2[j]? = some v) : ((w.alloc (.cells cs1 t1)).alloc (.cells cs2 t2)).cell? ⟨w.heap.size + 1, j, none⟩ = some v := by
  have h1 : ((w.alloc (.cells cs1 t1)).alloc (.cells cs2 t2)).heap[w.heap.size + 1]? = some (.cells cs2 t2) := by
    have := (MapKept.heap_alloc (w.alloc (.cells cs1 t1)) (.cells cs2 t2)).1
    simpa using this
  unfold World.cell?
  rw [h1]
  exact h
/-- the region of 'met[k]++' -/
def symtab_Check.ops : Array Oper := #[{ dst := some 98, op := Op.move (Operand.tmp 11), type := 73, pos := "symtab.go:107", after := #[], guard := none },
  { dst := some 99, op := Op.load 75 (Operand.tmp 14), type := 75, pos := "symtab.go:107", after := #[], guard := none },
  { dst := some 100, op := Op.lookup 73 (Operand.tmp 98) (Operand.tmp 99) false, type := 3, pos := "symtab.go:107", after := #[{ on := 0, ground := Ground.data }, { on := 1, ground := Ground.data }], guard := none },
  { dst := some 101, op := Op.binOp BinOp.add 3 (Operand.tmp 100) (Operand.const (Value.int IntKind.i64 1)) 3, type := 3, pos := "symtab.go:107", after := #[{ on := 2, ground := Ground.data }], guard := none },
  { dst := some 102, op := Op.mapEntry 73 (Operand.tmp 98) (Operand.tmp 99), type := 0, pos := "symtab.go:107", after := #[{ on := 0, ground := Ground.data }, { on := 1, ground := Ground.data }, { on := 0, ground := Ground.phase }, { on := 1, ground := Ground.phase }, { on := 2, ground := Ground.textOnly Departure.mapOpAssignEntry }, { on := 3, ground := Ground.textOnly Departure.mapOpAssignEntry }], guard := none },
  { dst := some 103, op := Op.extract (Operand.tmp 102) 1, type := 3, pos := "symtab.go:107", after := #[{ on := 4, ground := Ground.data }], guard := none },
  { dst := none, op := Op.entryStore 73 (Operand.tmp 98) (Operand.tmp 103) (Operand.tmp 101), type := 0, pos := "symtab.go:107", after := #[{ on := 0, ground := Ground.data }, { on := 5, ground := Ground.data }, { on := 3, ground := Ground.data }, { on := 4, ground := Ground.chain }, { on := 0, ground := Ground.phase }, { on := 1, ground := Ground.phase }, { on := 2, ground := Ground.phase }, { on := 3, ground := Ground.phase }, { on := 4, ground := Ground.phase }, { on := 5, ground := Ground.phase }], guard := none }]
theorem symtab_Check.inc {Q : Exit → Act → World → Prop} (a : Act) (W : World) (mb b n cnt : Nat) (f : Lit → Option Int) (s : ByteArray) (k : Int) (kl : Lit) (hsz : 104 ≤ a.tmps.size) (h11 : a.eval (.tmp 11) = .map (some mb)) (h14 : a.eval (.tmp 14) = .pointer (some ⟨b, 0, none⟩))
    (hq0 : W.cell? ⟨b, 0, none⟩ = some (.string s)) (hq1 : W.cell? ⟨b, 1, none⟩ = some (.int .i64 k)) (hM : Own.MapF Try.prog 75 3 W mb n f) (hkl : keyOf Try.prog 75 (.agg #[.string s, .int .i64 k]) = some kl) (hcnt : (f kl).getD 0 = (cnt : Int)) (hn : n < maxLen) (hc : cnt ≤ 1099511627776) (hne : b ≠ mb)
    (hQ : ∀ d v c a w, Q (.panic c) (a.put d v) w → Q (.panic c) a w)
    (h : ∀ v0 v1 w1 w3, Own.MapF Try.prog 75 3 w3 mb (n + 1) (Own.putF f kl ((cnt : Int) + 1)) → W.drew.grownBy w1 (some mb) → w1.grownBy w3 (some mb) →
      Q .normal ((((((a.put (some 98) (.map (some mb))).put (some 99) (.agg #[.string s, .int .i64 k])).put (some 100) (.int .i64 (cnt : Int))).put (some 101) (.int .i64 ((cnt : Int) + 1))).put (some 102) (.tuple #[v0, v1])).put (some 103) v1) w3) :
    (Code.region 28 symtab_Check.ops true).wp Try.prog Q a W := by
  have hu := Try.underlying75
  have hw1 : wrap64 ((cnt : Int) + 1) = (cnt : Int) + 1 := by unfold wrap64; omega
  have hMd : Own.MapF Try.prog 75 3 W.drew mb n f := hM.of_block rfl
  obtain ⟨v0, st, w1, hent, hgr, hlk, hst⟩ := hMd.entry symtab_Check.keys Try.underlying73 Try.underlying3 symtab_Check.zero hn hkl
  have hlk0 : ∀ u : World, u.heap[mb]? = W.heap[mb]? ∨ u.heap[mb]? = w1.heap[mb]? → (Instr.lookup 73 (.map (some mb)) (.agg #[.string s, .int .i64 k]) false).run Try.prog u = .ok (.int .i64 (cnt : Int)) u := fun u hu => by
    rw [← hcnt]
    rcases hu with hu | hu
    · exact (hM.of_block hu).look (Go.Maps.Keyed.of_law symtab_Check.keys) Try.underlying73 Try.underlying3 (symtab_Check.zero u) hkl
    · exact hlk u hu
  have hcell1 : ∀ j, w1.cell? ⟨b, j, none⟩ = W.cell? ⟨b, j, none⟩ := fun j => by
    have hlt := World.block_lt_of_cell? W _ hq0
    unfold World.cell?
    rw [hgr.block _ hlt (fun e => hne (by injection e))]
    rfl
  obtain ⟨w3, hst3, hM3, hg3⟩ := hst ((cnt : Int) + 1) (Own.wf64 (by omega) (by omega)) w1 rfl
  refine start_ (n := 7) (S := fun u => u.cell? ⟨b, 0, none⟩ = some (.string s) ∧ u.cell? ⟨b, 1, none⟩ = some (.int .i64 k) ∧ (u.heap[mb]? = W.heap[mb]? ∨ u.heap[mb]? = w1.heap[mb]?)) (ds := [6]) #[false, false, false, false, false, false, false] (by kernel_rfl) rfl rfl ⟨hq0, hq1, .inl rfl⟩ (fun hHeld => ?_)
  refine pure_ (i := 0) (N := some 98) (v := .map (some mb)) (a' := a.put (some 98) (.map (some mb))) #[true, false, false, false, false, false, false] rfl rfl (by kernel_rfl) (hQ _ _) (Or.inl ⟨by rfl, ?_⟩) rfl ?_
  · intro u
    simp [execOp, symtab_Check.ops, h11]
  generalize ha1 : a.put (some 98) (.map (some mb)) = a1 at *
  have g98 : a1.eval (.tmp 98) = .map (some mb) := by rw [← ha1]; exact Act.eval_put_same _ _ _ (by omega)
  have g14 : a1.eval (.tmp 14) = .pointer (some ⟨b, 0, none⟩) := by rw [← ha1, Act.eval_put_ne _ _ _ _ (by decide)]; exact h14
  refine take_ (i := 1) (N := some 99) (v := .agg #[.string s, .int .i64 k]) (a' := a1.put (some 99) (.agg #[.string s, .int .i64 k])) #[true, true, false, false, false, false, false] rfl rfl (by kernel_rfl) (hQ _ _) (Or.inl ⟨by rfl, ?_⟩) hHeld rfl ?_
  · rintro u ⟨s0, s1, s2⟩
    simp only [execOp, symtab_Check.ops, List.getElem_toArray, List.getElem_cons_succ, List.getElem_cons_zero, g14]
    go_simp
  obtain ⟨a2, ha2⟩ : ∃ a2, a1.put (some 99) (.agg #[.string s, .int .i64 k]) = a2 := ⟨_, rfl⟩
  rw [ha2]
  have z1 : a1.tmps.size = a.tmps.size := by rw [← ha1]; simp [Act.put]
  have z2 : a2.tmps.size = a.tmps.size := by rw [← ha2, ← z1]; simp [Act.put]
  have k98 : a2.eval (.tmp 98) = .map (some mb) := by rw [← ha2, Act.eval_put_ne _ _ _ _ (by decide)]; exact g98
  have k99 : a2.eval (.tmp 99) = .agg #[.string s, .int .i64 k] := by rw [← ha2]; exact Act.eval_put_same _ _ _ (by omega)
  refine take_ (i := 2) (N := some 100) (v := .int .i64 (cnt : Int)) (a' := a2.put (some 100) (.int .i64 (cnt : Int))) #[true, true, true, false, false, false, false] rfl rfl (by kernel_rfl) (hQ _ _) (Or.inl ⟨by rfl, ?_⟩) hHeld rfl ?_
  · rintro u ⟨s0, s1, s2⟩
    have hl_ := hlk0 u s2
    simp only [execOp, symtab_Check.ops, List.getElem_toArray, List.getElem_cons_succ, List.getElem_cons_zero, k98, k99]
    go_simp
  obtain ⟨a3, ha3⟩ : ∃ a3, a2.put (some 100) (.int .i64 (cnt : Int)) = a3 := ⟨_, rfl⟩
  rw [ha3]
  have z3 : a3.tmps.size = a.tmps.size := by rw [← ha3, ← z2]; simp [Act.put]
  have m98 : a3.eval (.tmp 98) = .map (some mb) := by rw [← ha3, Act.eval_put_ne _ _ _ _ (by decide)]; exact k98
  have m99 : a3.eval (.tmp 99) = .agg #[.string s, .int .i64 k] := by rw [← ha3, Act.eval_put_ne _ _ _ _ (by decide)]; exact k99
  have m100 : a3.eval (.tmp 100) = .int .i64 (cnt : Int) := by rw [← ha3]; exact Act.eval_put_same _ _ _ (by omega)
  refine pure_ (i := 3) (N := some 101) (v := .int .i64 ((cnt : Int) + 1)) (a' := a3.put (some 101) (.int .i64 ((cnt : Int) + 1))) #[true, true, true, true, false, false, false] rfl rfl (by kernel_rfl) (hQ _ _) (Or.inl ⟨by rfl, ?_⟩) rfl ?_
  · intro u
    simp only [execOp, symtab_Check.ops, List.getElem_toArray, List.getElem_cons_succ, List.getElem_cons_zero, m100]
    go_simp
    rw [IntKind.wrap_i64]
    omega
  obtain ⟨a4, ha4⟩ : ∃ a4, a3.put (some 101) (.int .i64 ((cnt : Int) + 1)) = a4 := ⟨_, rfl⟩
  rw [ha4]
  have z4 : a4.tmps.size = a.tmps.size := by rw [← ha4, ← z3]; simp [Act.put]
  have n98 : a4.eval (.tmp 98) = .map (some mb) := by rw [← ha4, Act.eval_put_ne _ _ _ _ (by decide)]; exact m98
  have n99 : a4.eval (.tmp 99) = .agg #[.string s, .int .i64 k] := by rw [← ha4, Act.eval_put_ne _ _ _ _ (by decide)]; exact m99
  have n101 : a4.eval (.tmp 101) = .int .i64 ((cnt : Int) + 1) := by rw [← ha4]; exact Act.eval_put_same _ _ _ (by omega)
  refine one_ (i := 4) (N := some 102) #[true, true, true, true, true, false, false] rfl rfl (by kernel_rfl) (by decide) (fun K hK => ?_)
  refine event_step (w1 := w1) (v := .tuple #[v0, goInt st]) (by rfl) ?_ ?_
  · simp only [execOp, symtab_Check.ops, List.getElem_toArray, List.getElem_cons_succ, List.getElem_cons_zero, n98, n99]
    go_simp
  refine hK.out _ _ ⟨(hcell1 0).trans hq0, (hcell1 1).trans hq1, .inr rfl⟩ (fun hHeld => ?_)
  clear hK K
  show wpAnyLast _ _ _ _ _ _ _ _ (a4.put (some 102) (.tuple #[v0, goInt st])) _
  obtain ⟨a5, ha5⟩ : ∃ a5, a4.put (some 102) (.tuple #[v0, goInt st]) = a5 := ⟨_, rfl⟩
  rw [ha5]
  have z5 : a5.tmps.size = a.tmps.size := by rw [← ha5, ← z4]; simp [Act.put]
  have o98 : a5.eval (.tmp 98) = .map (some mb) := by rw [← ha5, Act.eval_put_ne _ _ _ _ (by decide)]; exact n98
  have o101 : a5.eval (.tmp 101) = .int .i64 ((cnt : Int) + 1) := by rw [← ha5, Act.eval_put_ne _ _ _ _ (by decide)]; exact n101
  have o102 : a5.eval (.tmp 102) = .tuple #[v0, goInt st] := by rw [← ha5]; exact Act.eval_put_same _ _ _ (by omega)
  refine pure_ (i := 5) (N := some 103) (v := goInt st) (a' := a5.put (some 103) (goInt st)) #[true, true, true, true, true, true, false] rfl rfl (by kernel_rfl) (hQ _ _) (Or.inl ⟨by rfl, ?_⟩) rfl ?_
  · intro u
    simp only [execOp, symtab_Check.ops, List.getElem_toArray, List.getElem_cons_succ, List.getElem_cons_zero, o102]
    go_simp
    first | done | rfl
  obtain ⟨a6, ha6⟩ : ∃ a6, a5.put (some 103) (goInt st) = a6 := ⟨_, rfl⟩
  rw [ha6]
  have p98 : a6.eval (.tmp 98) = .map (some mb) := by rw [← ha6, Act.eval_put_ne _ _ _ _ (by decide)]; exact o98
  have p101 : a6.eval (.tmp 101) = .int .i64 ((cnt : Int) + 1) := by rw [← ha6, Act.eval_put_ne _ _ _ _ (by decide)]; exact o101
  have p103 : a6.eval (.tmp 103) = goInt st := by rw [← ha6]; exact Act.eval_put_same _ _ _ (by omega)
  refine last_ (i := 6) (N := none) #[true, true, true, true, true, true, true] rfl rfl (by kernel_rfl) (by decide) (fun K hK => ?_)
  refine Own.skip_step (w1 := w3) (by rfl) ?_ ?_
  · simp only [execOp, symtab_Check.ops, List.getElem_toArray, List.getElem_cons_succ, List.getElem_cons_zero, p98, p101, p103]
    simp [hst3, Result.andThen]
  refine hK.out _ _ ?_
  clear hK K
  refine done_ (by kernel_rfl) ?_
  have := h v0 (goInt st) w1 w3 hM3 hgr hg3
  rw [ha2, ha3, ha4, ha5, ha6] at this
  exact this
theorem symtab_Check.plain (a0 : ByteArray) (w : World) :
    Calls Try.prog 37 #[.string a0] w fun e w' => e = .returned (.bool (Sym.plainOf a0)) ∧ w = w' := by
  go_enter Try.func37, Try.ntmps37
  go_wp2_with fail
  refine (strings_IndexByte.same a0 0 _).mono ?_
  rintro e w' ⟨rfl, rfl⟩
  go_wp2
  go_ret
  exact ⟨rfl, rfl⟩
set_option maxHeartbeats 16000000 in
set_option maxRecDepth 100000 in
theorem symtab_Check.calls (A0 : Option Addr) (c0 : Nat) (l0 : List S58) (A1 : Option Addr) (c1 : Nat) (l1 : List ByteArray) (r : Int) (w : World) (hr0 : Kd.C k58 w A0 l0.length l0) (hc0 : l0.length ≤ c0) (hr1 : Kd.C Kd.string w A1 l1.length l1) (hc1 : l1.length ≤ c1) (h : symtab_Check.f l0 l1 = some r) :
    Calls Try.prog 23 #[.slice A0 l0.length c0, .slice A1 l1.length c1] w fun e w' => e = .returned (.int .i64 r) ∧ Below w.heap.size w w' := by
  obtain rfl := Option.some.inj h
  clear h
  have hu58 := Try.underlying58
  have HR0 := Aside0.mk hr0
  have HR1 := Aside0.mk hr1
  clear hr0 hr1
  have HB := Aside0.mk (Below.refl w.heap.size w)
  by_cases hg : l0.length > 2000 ∨ l1.length > 64
  · have hres : symCheck l0 l1 = 6 := by unfold symCheck; rw [if_pos hg]
    rw [hres]
    clear hres
    rcases hg with hg | hg
    · have hgb : decide ((l0.length : Int) > 2000) = true := by simp; omega
      go_enter Try.func23, Try.ntmps23
      go_wp2
      go_ret
      exact ⟨rfl, HB.out⟩
    · have hgb : decide ((l1.length : Int) > 64) = true := by simp; omega
      by_cases hg2 : (l0.length : Int) > 2000
      · have hgb2 : decide ((l0.length : Int) > 2000) = true := decide_eq_true hg2
        go_enter Try.func23, Try.ntmps23
        go_wp2
        go_ret
        exact ⟨rfl, HB.out⟩
      · have hgb2 : decide ((l0.length : Int) > 2000) = false := decide_eq_false hg2
        go_enter Try.func23, Try.ntmps23
        go_wp2
        go_ret
        exact ⟨rfl, HB.out⟩
  have hgb1 : decide ((l0.length : Int) > 2000) = false := by simp; omega
  have hgb2 : decide ((l1.length : Int) > 64) = false := by simp; omega
  have hres : symCheck l0 l1 = if someOf (longName l0) l0.length || someOf (longSec l1) l1.length then 6 else if someOf (secBad l1) l1.length then 80 else if someOf (symBad l0 l1) l0.length then 80 else 0 := by unfold symCheck; rw [if_neg hg]
  have HRES := Aside0.mk hres
  clear hres
  have hmm := @run_makeMap Try.prog
  go_enter Try.func23, Try.ntmps23
  go_wp2
  go_loopg [25] l0.length (fun kq i w' => ∃ n : Nat, n + kq = l0.length ∧ i = .int .i64 (n : Int) ∧ Aside0 (∀ j, j < n → longName l0 j = false) ∧ Aside0 (Below w.heap.size w w'))
  case atStart => exact ⟨0, by omega, rfl, ⟨fun j hj => absurd hj (by omega)⟩, HB⟩
  case round =>
    clear HB
    obtain ⟨n, hn, rfl, HN, HB⟩ := hrel
    cases gk with
    | succ gk =>
      have hltb : decide ((n : Int) < (l0.length : Int)) = true := by simp; omega
      obtain ⟨ad, rfl, hx0, hx1, hx2, hx3, hx4, hx5⟩ := at_T58 HR0.out (n : Int) (by omega) (by omega)
      rw [Int.toNat_natCast] at hx0 hx1 hx2 hx3 hx4 hx5
      replace hx0 := (HB.out.cell (World.block_lt_of_cell? w _ hx0)).trans hx0
      replace hx1 := (HB.out.cell (World.block_lt_of_cell? w _ hx1)).trans hx1
      replace hx2 := (HB.out.cell (World.block_lt_of_cell? w _ hx2)).trans hx2
      replace hx3 := (HB.out.cell (World.block_lt_of_cell? w _ hx3)).trans hx3
      replace hx4 := (HB.out.cell (World.block_lt_of_cell? w _ hx4)).trans hx4
      replace hx5 := (HB.out.cell (World.block_lt_of_cell? w _ hx5)).trans hx5
      by_cases hc : (rd_T58 l0 (n : Int)).f0.size > 255
      · have hcb : decide (((rd_T58 l0 (n : Int)).f0.size : Int) > 255) = true := by simp; omega
        go_wp2
        go_ret
        refine ⟨?_, ?_⟩
        · rw [HRES.out, someOf_true (p := longName l0) (i := n) (by omega) (decide_eq_true hc)]
          rfl
        · exact below_alloc HB.out _
      · have hcb : decide (((rd_T58 l0 (n : Int)).f0.size : Int) > 255) = false := by simp; omega
        go_wp2
        go_roundg gk
        case measure => omega
        case rel => exact ⟨n + 1, by omega, by go_num, ⟨none_succ HN.out (decide_eq_false hc)⟩, ⟨below_alloc HB.out _⟩⟩
    | zero =>
      have hltb : decide ((n : Int) < (l0.length : Int)) = false := by simp; omega
      obtain rfl : n = l0.length := by omega
      go_wp2
      clear hltb
      go_loopg [36] l1.length (fun kq i w' => ∃ m : Nat, m + kq = l1.length ∧ i = .int .i64 (m : Int) ∧ Aside0 (∀ j, j < m → longSec l1 j = false) ∧ Aside0 (Below w.heap.size w w'))
      case atStart => exact ⟨0, by omega, rfl, ⟨fun j hj => absurd hj (by omega)⟩, HB⟩
      case round =>
        clear HB
        obtain ⟨m, hm, rfl, HM, HB⟩ := hrel
        cases gk with
        | succ gk =>
          have hltb : decide ((m : Int) < (l1.length : Int)) = true := by simp; omega
          obtain ⟨ad, rfl, hx⟩ := Kd.at_string HR1.out (m : Int) (by omega) (by omega)
          rw [Int.toNat_natCast] at hx
          replace hx := (HB.out.cell (World.block_lt_of_cell? w _ hx)).trans hx
          by_cases hc : (rdOf ByteArray.empty l1 (m : Int)).size > 255
          · have hcb : decide (((rdOf ByteArray.empty l1 (m : Int)).size : Int) > 255) = true := by simp; omega
            go_wp2
            go_ret
            refine ⟨?_, HB.out⟩
            rw [HRES.out, someOf_true (p := longSec l1) (i := m) (by omega) (decide_eq_true hc), Bool.or_true]
            rfl
          · have hcb : decide (((rdOf ByteArray.empty l1 (m : Int)).size : Int) > 255) = false := by simp; omega
            go_wp2
            go_roundg gk
            case measure => omega
            case rel => exact ⟨m + 1, by omega, by go_num, ⟨none_succ HM.out (decide_eq_false hc)⟩, HB⟩
        | zero =>
          have hltb : decide ((m : Int) < (l1.length : Int)) = false := by simp; omega
          obtain rfl : m = l1.length := by omega
          have hres := HRES.out
          rw [someOf_false HN.out, someOf_false HM.out] at hres
          rw [if_neg (by decide)] at hres
          clear HRES
          have HRES := Aside0.mk hres
          clear hres
          go_wp2
          clear hltb
          go_loopg [46] l1.length (fun kq i w' => ∃ m : Nat, m + kq = l1.length ∧ i = .int .i64 (m : Int) ∧ Aside0 (∀ j, j < m → secBad l1 j = false) ∧ Aside0 (Below w.heap.size w w'))
          case atStart => exact ⟨0, by omega, rfl, ⟨fun j hj => absurd hj (by omega)⟩, HB⟩
          case round =>
            clear HB
            obtain ⟨m, hm, rfl, HS, HB⟩ := hrel
            cases gk with
            | succ gk =>
              have hltb : decide ((m : Int) < (l1.length : Int)) = true := by simp; omega
              obtain ⟨ad, rfl, hx⟩ := Kd.at_string HR1.out (m : Int) (by omega) (by omega)
              rw [Int.toNat_natCast] at hx
              replace hx := (HB.out.cell (World.block_lt_of_cell? w _ hx)).trans hx
              have hbad : secBad l1 m = ((rdOf ByteArray.empty l1 (m : Int)).toList == [] || (rdOf ByteArray.empty l1 (m : Int)).toList == [42] || !Sym.plainOf (rdOf ByteArray.empty l1 (m : Int)) || Sym.among (l1.take m) (rdOf ByteArray.empty l1 (m : Int))) := rfl
              have HBAD := Aside0.mk hbad
              clear hbad
              have hfin : secBad l1 m = true → symCheck l0 l1 = 80 := fun h => by rw [HRES.out, someOf_true (p := secBad l1) (by omega) h]; rfl
              have HFIN := Aside0.mk hfin
              clear hfin
              generalize rdOf ByteArray.empty l1 (m : Int) = s at hx HBAD
              by_cases c4 : s.toList = []
              · have c4b0 : (s.toList == ([] : List UInt8)) = true := beq_iff_eq.mpr c4
                have c4b1 : (s.toList != ([] : List UInt8)) = false := bne_eq_false_iff_eq.mpr c4
                go_wp2
                go_ret
                refine ⟨?_, HB.out⟩
                rw [HFIN.out (by rw [HBAD.out, c4b0]; rfl)]
                rfl
              · have c4b0 : (s.toList == ([] : List UInt8)) = false := beq_eq_false_iff_ne.mpr c4
                have c4b1 : (s.toList != ([] : List UInt8)) = true := bne_iff_ne.mpr c4
                by_cases c5 : s.toList = [42]
                · have c5b0 : (s.toList == ([42] : List UInt8)) = true := beq_iff_eq.mpr c5
                  have c5b1 : (s.toList != ([42] : List UInt8)) = false := bne_eq_false_iff_eq.mpr c5
                  go_wp2
                  go_ret
                  refine ⟨?_, HB.out⟩
                  rw [HFIN.out (by rw [HBAD.out, c5b0, Bool.or_true]; rfl)]
                  rfl
                · have c5b0 : (s.toList == ([42] : List UInt8)) = false := beq_eq_false_iff_ne.mpr c5
                  have c5b1 : (s.toList != ([42] : List UInt8)) = true := bne_iff_ne.mpr c5
                  have hbad : secBad l1 m = (!Sym.plainOf s || Sym.among (l1.take m) s) := by rw [HBAD.out, c4b0, c5b0]; rfl
                  clear HBAD
                  cases hp : Sym.plainOf s with
                  | false =>
                    rw [hp] at hbad
                    have HBAD := Aside0.mk hbad
                    clear hbad
                    go_wp2_with fail
                    refine (symtab_Check.plain s _).mono ?_
                    rintro e w' ⟨rfl, rfl⟩
                    rw [hp]
                    go_wp2
                    go_ret
                    refine ⟨?_, HB.out⟩
                    rw [HFIN.out HBAD.out]
                    rfl
                  | true =>
                    rw [hp] at hbad
                    have HBAD := Aside0.mk hbad
                    clear hbad
                    have hR1 := Kd.C_take (m := m) HR1.out (by omega)
                    have hlt : (l1.take m).length = m := by rw [List.length_take]; omega
                    go_wp2_with fail
                    refine (symtab_Check.plain s _).mono ?_
                    rintro e w' ⟨rfl, rfl⟩
                    rw [hp]
                    cases ha : Sym.among (l1.take m) s with
                    | true =>
                      rw [ha] at HBAD
                      have hcall := slices_Contains_string_string.calls 1000 _ c1 (l1.take m) s true wr (Kd.C_below hR1 HB.out) (by rw [hlt]; omega) (by rw [Sym.contains_f _ _ (by omega) _ (by omega), ha])
                      rw [hlt] at hcall
                      go_wp2_with fail
                      refine hcall.mono ?_
                      rintro e w' ⟨rfl, ⟨nd, rfl⟩⟩
                      go_wp2
                      go_ret
                      refine ⟨?_, pw_below_drewN HB.out _⟩
                      rw [HFIN.out (by rw [HBAD.out]; rfl)]
                      rfl
                    | false =>
                      rw [ha] at HBAD
                      have hcall := slices_Contains_string_string.calls 1000 _ c1 (l1.take m) s false wr (Kd.C_below hR1 HB.out) (by rw [hlt]; omega) (by rw [Sym.contains_f _ _ (by omega) _ (by omega), ha])
                      rw [hlt] at hcall
                      go_wp2_with fail
                      refine hcall.mono ?_
                      rintro e w' ⟨rfl, ⟨nd, rfl⟩⟩
                      go_wp2
                      go_roundg gk
                      case measure => omega
                      case rel => exact ⟨m + 1, by omega, by go_num, ⟨none_succ HS.out HBAD.out⟩, ⟨pw_below_drewN HB.out _⟩⟩
            | zero =>
              have hltb : decide ((m : Int) < (l1.length : Int)) = false := by simp; omega
              obtain rfl : m = l1.length := by omega
              have hres := HRES.out
              rw [someOf_false HS.out, if_neg (by decide)] at hres
              clear HRES
              have HRES := Aside0.mk hres
              clear hres
              go_wp2
              clear hltb
              have hle : w.heap.size ≤ wr.heap.size := below_size HB.out
              have hB2 := below_alloc HB.out (.map #[] 0)
              have hM2 := Own.MapF.made Try.prog 75 3 wr
              generalize wr.alloc (.map #[] 0) = w5 at *
              generalize wr.heap.size = mb at *
              clear HB
              have HM := Aside0.mk hM2
              have HB := Aside0.mk hB2
              clear hM2 hB2
              go_loopg [73] l0.length (fun kq i w' => ∃ (n : Nat) (f : Lit → Option Int), n + kq = l0.length ∧ i = .int .i64 (n : Int) ∧ Aside0 (∀ j, j < n → symBad l0 l1 j = false) ∧ Aside0 (Own.MapF Try.prog 75 3 w' mb n f) ∧ Aside0 (∀ (s : ByteArray) (a : Int) (kl : Lit), keyOf Try.prog 75 (.agg #[.string s, .int .i64 a]) = some kl → (f kl).getD 0 = ((((l0.take n).map symKey).count (s.data.toList, a) : Nat) : Int)) ∧ Aside0 (Below w.heap.size w w'))
              case atStart => exact ⟨0, fun _ => none, by omega, rfl, ⟨fun j hj => absurd hj (by omega)⟩, HM, ⟨fun s a kl _ => by simp⟩, HB⟩
              case round =>
                clear HB HM
                obtain ⟨n, f, hn, rfl, HQ, HM, HF, HB⟩ := hrel
                cases gk with
                | zero =>
                  have hltb : decide ((n : Int) < (l0.length : Int)) = false := by simp; omega
                  obtain rfl : n = l0.length := by omega
                  have hres := HRES.out
                  rw [someOf_false HQ.out, if_neg (by decide)] at hres
                  go_wp2
                  go_ret
                  refine ⟨?_, HB.out⟩
                  rw [hres]
                  rfl
                | succ gk =>
                  have hn2 : n ≤ 2000 := by omega
                  have hltb : decide ((n : Int) < (l0.length : Int)) = true := by simp; omega
                  obtain ⟨ad, rfl, hx0, hx1, hx2, hx3, hx4, hx5⟩ := at_T58 HR0.out (n : Int) (by omega) (by omega)
                  rw [Int.toNat_natCast] at hx0 hx1 hx2 hx3 hx4 hx5
                  replace hx0 := (HB.out.cell (World.block_lt_of_cell? w _ hx0)).trans hx0
                  replace hx1 := (HB.out.cell (World.block_lt_of_cell? w _ hx1)).trans hx1
                  replace hx2 := (HB.out.cell (World.block_lt_of_cell? w _ hx2)).trans hx2
                  replace hx3 := (HB.out.cell (World.block_lt_of_cell? w _ hx3)).trans hx3
                  replace hx4 := (HB.out.cell (World.block_lt_of_cell? w _ hx4)).trans hx4
                  replace hx5 := (HB.out.cell (World.block_lt_of_cell? w _ hx5)).trans hx5
                  have hbad : symBad l0 l1 n = (!Sym.rightOf (rd_T58 l0 (n : Int)) l1 || ((rd_T58 l0 (n : Int)).f0.toList != [] && decide (0 < ((l0.take n).map symKey).count (symKey (rd_T58 l0 (n : Int)))))) := rfl
                  have HBAD := Aside0.mk hbad
                  clear hbad
                  have hfin : symBad l0 l1 n = true → symCheck l0 l1 = 80 := fun h => by rw [HRES.out, someOf_true (p := symBad l0 l1) (by omega) h]; rfl
                  have HFIN := Aside0.mk hfin
                  clear hfin
                  have hlong : (rd_T58 l0 (n : Int)).f0.size ≤ 255 := by
                    have := HN.out n (by omega)
                    simp only [longName, decide_eq_false_iff_not] at this
                    omega
                  have htake : (l0.take (n + 1)).map symKey = (l0.take n).map symKey ++ [symKey (rd_T58 l0 (n : Int))] := by
                    rw [List.take_succ_eq_append_getElem (by omega), List.map_append]
                    have : rd_T58 l0 (n : Int) = l0[n]'(by omega) := by simp [rd_T58, List.getD, show n < l0.length by omega]
                    rw [this]
                    rfl
                  have HTAKE := Aside0.mk htake
                  clear htake
                  generalize rd_T58 l0 (n : Int) = x at *
                  have hRS : Kd.C Kd.string wr A1 l1.length l1 := Kd.C_below HR1.out HB.out
                  have hkey2 : symKey x = (x.f0.data.toList, if 1 < x.f4 then 1 else x.f4) := rfl
                  obtain ⟨a, hmin⟩ : ∃ a : Int, (if 1 < x.f4 then (1 : Int) else x.f4) = a := ⟨_, rfl⟩
                  rw [hmin] at hkey2
                  have ha : a ≤ 1 ∧ (0 ≤ x.f4 → 0 ≤ a) := by rw [← hmin]; split <;> omega
                  have HA := Aside0.mk ha
                  have HKEY := Aside0.mk hkey2
                  clear hkey2 ha
                  cases hri : Sym.rightOf x l1 with
                  | false =>
                    rw [hri] at HBAD
                    have hsf := Sym.right_f x l1 (by omega) 1000 (by omega)
                    rw [hri] at hsf
                    have HSF := Aside0.mk hsf
                    clear hsf hri
                    go_wp2_with fail
                    refine (symtab_right.calls 1000 x.f0 x.f1 x.f2 x.f3 x.f4 x.f5 A1 c1 l1 false _ (Kd.C_alloc (Kd.C_alloc hRS _) _) hc1 HSF.out).mono ?_
                    rintro e w' ⟨rfl, hb⟩
                    go_wp2
                    go_ret
                    refine ⟨?_, below_step (below_alloc (below_alloc HB.out _) _) hb⟩
                    rw [HFIN.out (by rw [HBAD.out]; rfl)]
                    rfl
                  | true =>
                    rw [hri] at HBAD
                    have hsf := Sym.right_f x l1 (by omega) 1000 (by omega)
                    rw [hri] at hsf
                    have HSF := Aside0.mk hsf
                    clear hsf
                    go_wp2_with fail
                    refine (symtab_right.calls 1000 x.f0 x.f1 x.f2 x.f3 x.f4 x.f5 A1 c1 l1 true _ (Kd.C_alloc (Kd.C_alloc hRS _) _) hc1 HSF.out).mono ?_
                    rintro e w' ⟨rfl, hb⟩
                    have hsize : ((wr.alloc (.cells #[.string x.f0, .string x.f1, .int .i64 x.f2, .int .i64 x.f3, .int .i64 x.f4, .int .i64 x.f5] 58)).alloc (.cells #[.string x.f0, .int .i64 a] 75)).heap.size = wr.heap.size + 2 := by simp
                    have e0 := (hb.cell (p := ⟨wr.heap.size, 0, none⟩) (by rw [hsize]; show wr.heap.size < _; omega)).trans (symtab_Check.cells1 wr _ _ _ _ 0 (.string x.f0) rfl)
                    have q0 := (hb.cell (p := ⟨wr.heap.size + 1, 0, none⟩) (by rw [hsize]; show wr.heap.size + 1 < _; omega)).trans (symtab_Check.cells2 wr _ _ _ _ 0 (.string x.f0) rfl)
                    have q1 := (hb.cell (p := ⟨wr.heap.size + 1, 1, none⟩) (by rw [hsize]; show wr.heap.size + 1 < _; omega)).trans (symtab_Check.cells2 wr _ _ _ _ 1 (.int .i64 a) rfl)
                    have hmlt := HM.out.lt
                    have hmb1 : wr.heap.size + 1 ≠ mb := fun e => absurd (e ▸ hmlt : wr.heap.size + 1 < wr.heap.size) (Nat.not_lt.2 (Nat.le_succ _))
                    have hM3 := ((HM.out.kept (World.grownBy_alloc wr _ none) (fun h => by cases h)).kept (World.grownBy_alloc _ _ none) (fun h => by cases h)).kept (grown_of_below hb none) (fun h => by cases h)
                    have hB3 := below_step (below_alloc (below_alloc HB.out _) _) hb
                    clear HM HB hb hsize
                    have HM := Aside0.mk hM3
                    have HB := Aside0.mk hB3
                    clear hM3 hB3
                    have hf4 : 0 ≤ x.f4 := by
                      unfold Sym.rightOf at hri
                      simp only [Bool.and_eq_true, decide_eq_true_eq] at hri
                      omega
                    obtain ⟨kl, hkl⟩ := symtab_Check.key x.f0 a hlong (HA.out.2 hf4) HA.out.1
                    have hcnt := HF.out x.f0 a kl hkl
                    have hlook := HM.out.look (Go.Maps.Keyed.of_law symtab_Check.keys) Try.underlying73 Try.underlying3 (symtab_Check.zero w') hkl
                    rw [hcnt] at hlook
                    have hkeyed : ((l0.take n).map symKey).count (symKey x) = ((l0.take n).map symKey).count (x.f0.data.toList, a) := by rw [HKEY.out]
                    rw [hkeyed] at HBAD
                    clear hkeyed
                    have HCNT := Aside0.mk hcnt
                    clear hcnt
                    have hcl : ((l0.take n).map symKey).count (x.f0.data.toList, a) ≤ n := Nat.le_trans List.count_le_length (by rw [List.length_map, List.length_take]; omega)
                    have hcons : ∀ (s : ByteArray) (a' : Int) (kl' : Lit), keyOf Try.prog 75 (.agg #[.string s, .int .i64 a']) = some kl' → (Own.putF f kl (((((l0.take n).map symKey).count (x.f0.data.toList, a) : Nat) : Int) + 1) kl').getD 0 = ((((l0.take (n + 1)).map symKey).count (s.data.toList, a') : Nat) : Int) := fun s a' kl' hk' => by
                      rw [HTAKE.out, HKEY.out, List.count_append, List.count_singleton]
                      by_cases e1 : kl' = kl
                      · subst e1
                        have e2 := symtab_Check.keys.inj hk' hkl
                        injection e2 with e2
                        have e3 := congrArg (fun v => v[0]?) e2
                        have e4 := congrArg (fun v => v[1]?) e2
                        simp only [List.getElem?_toArray, List.getElem?_cons_zero, List.getElem?_cons_succ, Option.some.injEq, Value.string.injEq, Value.int.injEq, true_and] at e3 e4
                        subst e3
                        subst e4
                        simp [Own.putF]
                      · have e2 : ((x.f0.data.toList, a) == (s.data.toList, a')) = false := by
                          rw [beq_eq_false_iff_ne]
                          intro e3
                          injection e3 with e3 e4
                          apply e1
                          have e5 : x.f0 = s := ByteArray.ext (Array.toList_inj.mp e3)
                          rw [← e5, ← e4, hkl] at hk'
                          exact (Option.some.inj hk').symm
                        rw [e2, if_neg (by decide), Nat.add_zero, ← HF.out s a' kl' hk']
                        simp [Own.putF, e1]
                    have HCONS := Aside0.mk hcons
                    clear hcons
                    generalize ((l0.take n).map symKey).count (x.f0.data.toList, a) = cnt at *
                    have hw1 : wrap64 ((cnt : Int) + 1) = (cnt : Int) + 1 := by unfold wrap64; omega
                    by_cases c4 : x.f0.toList = []
                    · have c4b0 : (x.f0.toList == ([] : List UInt8)) = true := beq_iff_eq.mpr c4
                      have c4b1 : (x.f0.toList != ([] : List UInt8)) = false := bne_eq_false_iff_eq.mpr c4
                      go_wp2_with fail
                      refine symtab_Check.inc _ _ mb (wr.heap.size + 1) n cnt f x.f0 a kl (by simp) rfl rfl q0 q1 HM.out hkl HCNT.out (Nat.lt_of_le_of_lt hn2 (by decide)) (Nat.le_trans hcl (Nat.le_trans hn2 (by decide))) hmb1 (fun d _ _ _ _ h => by cases d <;> exact h) ?_
                      intro v0 v1 w1 w3 hM3 hgr hg3
                      have hB1 := (below_drew1 HB.out).grown hgr (below_size (below_drew1 HB.out)) (fun k hk => by cases hk; exact hle)
                      have hB4 : Below w.heap.size w w3 := hB1.grown hg3 (below_size hB1) (fun k hk => by cases hk; exact hle)
                      simp only [Act.put, List.setIfInBounds_toArray, List.set_cons_zero, List.set_cons_succ]
                      go_wp2
                      go_roundg gk
                      case measure => omega
                      case rel => exact ⟨n + 1, _, by omega, by go_num, ⟨none_succ HQ.out (by rw [HBAD.out]; simp [c4b1])⟩, ⟨hM3⟩, HCONS, ⟨hB4⟩⟩
                    · have c4b0 : (x.f0.toList == ([] : List UInt8)) = false := beq_eq_false_iff_ne.mpr c4
                      have c4b1 : (x.f0.toList != ([] : List UInt8)) = true := bne_iff_ne.mpr c4
                      by_cases c6 : 0 < cnt
                      · have c6b : decide ((cnt : Int) > 0) = true := decide_eq_true (Int.ofNat_lt.mpr c6)
                        go_wp2
                        go_ret
                        refine ⟨?_, HB.out⟩
                        rw [HFIN.out (by rw [HBAD.out, c4b1, decide_eq_true c6]; rfl)]
                        rfl
                      · have c6b : decide ((cnt : Int) > 0) = false := decide_eq_false (fun h => c6 (Int.ofNat_lt.mp h))
                        go_wp2_with fail
                        refine symtab_Check.inc _ _ mb (wr.heap.size + 1) n cnt f x.f0 a kl (by simp) rfl rfl q0 q1 HM.out hkl HCNT.out (Nat.lt_of_le_of_lt hn2 (by decide)) (Nat.le_trans hcl (Nat.le_trans hn2 (by decide))) hmb1 (fun d _ _ _ _ h => by cases d <;> exact h) ?_
                        intro v0 v1 w1 w3 hM3 hgr hg3
                        have hB1 := (below_drew1 HB.out).grown hgr (below_size (below_drew1 HB.out)) (fun k hk => by cases hk; exact hle)
                        have hB4 : Below w.heap.size w w3 := hB1.grown hg3 (below_size hB1) (fun k hk => by cases hk; exact hle)
                        simp only [Act.put, List.setIfInBounds_toArray, List.set_cons_zero, List.set_cons_succ]
                        go_wp2
                        go_roundg gk
                        case measure => omega
                        case rel => exact ⟨n + 1, _, by omega, by go_num, ⟨none_succ HQ.out (by rw [HBAD.out]; simp [c4b1, c6])⟩, ⟨hM3⟩, HCONS, ⟨hB4⟩⟩


end Go.Proofs.Ytejdnanhnkjaoaa.G
