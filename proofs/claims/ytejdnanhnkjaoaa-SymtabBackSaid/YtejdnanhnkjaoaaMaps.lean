/- A map of the call's own from keys to whole numbers, told as a function from keys to numbers: made, read, written, carried. -/
import Derived.Maps.OwnSet
import Derived.Test.YtejdnanhnkjaoaaG0
namespace Go.Proofs.Ytejdnanhnkjaoaa.Own
set_option linter.unusedVariables false
set_option linter.unusedSimpArgs false
open Go.ChangeMaps Go.MapKept Go.WideShapes
open Go.Maps (Keyed IsMap)

theorem wf64 {a : Int} (h0 : 0 ≤ a) (h1 : a ≤ 9223372036854775807) : (Lit.int .i64 a).wf = true := by
  simp [Lit.wf, IntKind.min, IntKind.max, IntKind.signed, IntKind.bits]
  omega
/-- block b is a map of at most n entries that answers as f -/
def MapF (P : Program) (k e : TypeId) (w : World) (b n : Nat) (f : Lit → Option Int) : Prop :=
  ∃ D : DataW Unit, w.ownsMap P k (plainElem P e) b n D ∧ (∀ kl, Maps.has D kl = (f kl).isSome) ∧ ∀ kl c, f kl = some c → ∀ z, D.atKey kl z = .lit (.int .i64 c)
open Classical in
/-- one entry more, or another -/
noncomputable def putF (f : Lit → Option Int) (k : Lit) (c : Int) : Lit → Option Int := fun k' => if k' = k then some c else f k'

/-- entries with strings as keys, the last one first -/
def look (m : List (List UInt8 × Int)) (s : List UInt8) : Option Int := (m.find? (fun p => p.1 == s)).map (·.2)
def strF (m : List (List UInt8 × Int)) : Lit → Option Int
  | .string s => look m s
  | _ => none
theorem look_cons (m : List (List UInt8 × Int)) (s s' : List UInt8) (c : Int) : look ((s, c) :: m) s' = if s = s' then some c else look m s' := by
  unfold look
  by_cases h : s = s'
  · subst h
    simp
  · rw [List.find?_cons_of_neg (by simpa using h), if_neg h]
theorem putF_strF (m : List (List UInt8 × Int)) (s : List UInt8) (c : Int) : putF (strF m) (.string s) c = strF ((s, c) :: m) := by
  funext k
  unfold putF
  by_cases h : k = .string s
  · subst h
    rw [if_pos rfl]
    simp [strF, look_cons]
  · rw [if_neg h]
    cases k <;> simp only [strF]
    rename_i s'
    rw [look_cons, if_neg (fun e => h (by rw [e]))]
theorem MapF.made (P : Program) (k e : TypeId) (w : World) : MapF P k e (w.alloc (.map #[] 0)) w.heap.size 0 (fun _ => none) :=
  ⟨.map [], World.ownsMap_made w P k _, fun _ => rfl, fun _ _ h => by cases h⟩
theorem strF_nil : strF [] = fun _ => none := by
  funext k
  cases k <;> rfl
theorem MapF.made0 (P : Program) (k e : TypeId) (w : World) : MapF P k e (w.alloc (.map #[] 0)) w.heap.size 0 (strF []) := by
  rw [strF_nil]
  exact MapF.made P k e w
theorem MapF.mono {P : Program} {k e : TypeId} {w : World} {b n n' : Nat} {f : Lit → Option Int} (h : MapF P k e w b n f) (hn : n ≤ n') : MapF P k e w b n' f := by
  obtain ⟨D, h1, h2⟩ := h
  exact ⟨D, h1.mono hn, h2⟩
theorem MapF.lt {P : Program} {k e : TypeId} {w : World} {b n : Nat} {f : Lit → Option Int} (h : MapF P k e w b n f) : b < w.heap.size := by
  obtain ⟨D, h, _⟩ := h
  exact h.lt
theorem MapF.kept {P : Program} {k e : TypeId} {w w' : World} {b n : Nat} {f : Lit → Option Int} {row : Option Nat} (h : MapF P k e w b n f) (hg : w.grownBy w' row) (hne : some b ≠ row) : MapF P k e w' b n f := by
  obtain ⟨D, h1, h2⟩ := h
  exact ⟨D, h1.kept hg hne, h2⟩
theorem MapF.drewN {P : Program} {k e : TypeId} {w : World} {b n : Nat} {f : Lit → Option Int} (h : MapF P k e w b n f) (m : Nat) : MapF P k e (w.drewN m) b n f := by
  obtain ⟨D, h1, h2⟩ := h
  exact ⟨D, h1, h2⟩
theorem MapF.look_ok {P : Program} {t k e : TypeId} {w : World} {b n : Nat} {f : Lit → Option Int} (h : MapF P k e w b n f) (K : Keyed P k) (ht : P.underlying t = some (.map k e)) (he : P.underlying e = some (.int .i64))
    (hz : (zeroValue e).run P w = .ok (.int .i64 0) w) {key : Value} {kl : Lit} (hkey : keyOf P k key = some kl) :
    (Instr.lookup t (.map (some b)) key true).run P w = .ok (.tuple #[.int .i64 ((f kl).getD 0), .bool (f kl).isSome]) w := by
  obtain ⟨D, h1, h2, h3⟩ := h
  obtain ⟨v, ps, hrun, hv⟩ := h1.look_ok K ht hz (plainElem_int he (by decide)) hkey
  obtain ⟨c, rfl, hc, hwc⟩ := plainElem_int_inv he hv
  rw [hrun, h2 kl]
  have hc1 := congrArg Prod.fst hc
  simp only at hc1
  cases hf : f kl with
  | none =>
    have hh : Maps.has D kl = false := by rw [h2, hf]; rfl
    rw [Maps.atKey_of_not_has hh] at hc1
    cases hc1
    rfl
  | some c' =>
    rw [h3 kl c' hf] at hc1
    cases hc1
    rfl
theorem MapF.look {P : Program} {t k e : TypeId} {w : World} {b n : Nat} {f : Lit → Option Int} (h : MapF P k e w b n f) (K : Keyed P k) (ht : P.underlying t = some (.map k e)) (he : P.underlying e = some (.int .i64))
    (hz : (zeroValue e).run P w = .ok (.int .i64 0) w) {key : Value} {kl : Lit} (hkey : keyOf P k key = some kl) :
    (Instr.lookup t (.map (some b)) key false).run P w = .ok (.int .i64 ((f kl).getD 0)) w := by
  obtain ⟨D, h1, h2, h3⟩ := h
  obtain ⟨c, hrun, hat, hwc⟩ := h1.lookup_int K ht he hz hkey
  rw [hrun]
  cases hf : f kl with
  | none =>
    have hh : Maps.has D kl = false := by rw [h2, hf]; rfl
    rw [Maps.atKey_of_not_has hh] at hat
    cases hat
    rfl
  | some c' =>
    rw [h3 kl c' hf] at hat
    cases hat
    rfl
theorem MapF.put {P : Program} {t k e : TypeId} {w : World} {b n : Nat} {f : Lit → Option Int} (h : MapF P k e w b n f) (K : Keyed P k) (ht : P.underlying t = some (.map k e)) (he : P.underlying e = some (.int .i64)) (hn : n < maxLen)
    {key : Value} {kl : Lit} (hkey : keyOf P k key = some kl) {c : Int} (hc : (Lit.int .i64 c).wf = true) :
    ∃ w', (Instr.mapUpdate t (.map (some b)) key (.int .i64 c)).run P w = .ok () w' ∧ MapF P k e w' b (n + 1) (putF f kl c) ∧ w.grownBy w' (some b) := by
  obtain ⟨D, h1, h2, h3⟩ := h
  obtain ⟨w', hrun, hown, hg⟩ := h1.update K ht hn hkey (plainElem_int he hc)
  refine ⟨w', hrun, ⟨_, hown, fun kl' => ?_, fun kl' c' hf z => ?_⟩, hg⟩
  · unfold putF
    by_cases e1 : kl' = kl
    · subst e1
      rw [if_pos rfl, Maps.has_put_same h1.isMap (K.key hkey)]
      rfl
    · rw [if_neg e1, Maps.has_put_other e1, h2]
  · unfold putF at hf
    by_cases e1 : kl' = kl
    · subst e1
      rw [if_pos rfl] at hf
      cases hf
      exact Maps.atKey_put_same h1.isMap (K.key hkey) _ _
    · rw [if_neg e1] at hf
      rw [Maps.atKey_put_other e1, h3 _ _ hf]
theorem MapF.over {P : Program} {k e : TypeId} {w w1 : World} {b n : Nat} {f : Lit → Option Int} {v : Value} {e' : TypeId} (h : MapF P k e w b n f) (hty : ∀ j, v.ownBlock = some j → ∃ cells, w.heap[j]? = some (.cells cells e' (0, 0))) (hg : w.grownBy w1 v.ownBlock) : MapF P k e w1 b n f := by
  refine h.kept hg fun he => ?_
  obtain ⟨D, ⟨es, clock, hb, _⟩, _⟩ := h
  obtain ⟨cells, hc⟩ := hty b he.symm
  rw [hb] at hc
  cases hc
theorem R_overMap {P : Program} {k e : TypeId} {W w1 : World} {b n : Nat} {f : Lit → Option Int} {α : Type} {d : Go.Proofs.YtejdnanhnkjaoaaW.PrintWords.Kd α} {t base : Nat} {ok : Nat → Prop} {u : Value} {xs : List α} (hR : d.R t W base ok u xs) (h : MapF P k e W b n f) (hg : W.grownBy w1 (some b)) : d.R t w1 base ok u xs := by
  refine Go.Proofs.YtejdnanhnkjaoaaW.PrintWords.Kd.R_mono (Go.Proofs.YtejdnanhnkjaoaaW.PrintWords.Kd.R_move (Go.Proofs.YtejdnanhnkjaoaaW.PrintWords.Kd.R_bound hR) (fun j hj => hg.block j hj.2.2.1 (fun he => ?_))) (fun _ hj => hj.1)
  obtain ⟨_, _, _, q, hq, cells, hc⟩ := hj
  obtain ⟨D, ⟨es, clock, hb, _⟩, _⟩ := h
  cases he
  rw [hb] at hc
  cases hc
/-- at the operation, for the walk -/
theorem wp_put {P : Program} (w : World) {ops : Array Oper} {rest : List Oper} {o : Oper} {a : Act} {Q : Exit → Act → World → Prop}
    (hg : o.guard = none) (m x v : Operand) (t : TypeId) (hop : o.op = Op.mapUpdate t m x v ∨ o.op = Op.insert t m x v)
    (k e : TypeId) (K : Keyed P k) (ht : P.underlying t = some (.map k e)) (he : P.underlying e = some (.int .i64)) (b n : Nat) (f : Lit → Option Int)
    (hm : a.eval m = .map (some b)) (hown : MapF P k e w b n f) (hn : n < maxLen) (key : Value) (kl : Lit) (c : Int) (hx : a.eval x = key) (hv : a.eval v = .int .i64 c) (hkey : keyOf P k key = some kl) (hc : (Lit.int .i64 c).wf = true)
    (hK : ∀ w', MapF P k e w' b (n + 1) (putF f kl c) → w.grownBy w' (some b) → wpList P ops Q rest (a.put o.dst undef) w') :
    wpList P ops Q (o :: rest) a w := by
  refine wpList_plain hg fun K' hK' => ?_
  obtain ⟨w', hrun, r1, r2⟩ := hown.put K ht he hn hkey hc
  unfold Oper.wp
  rcases hop with hop | hop <;>
  · simp [execOp, hop, hm, hx, hv, hrun, Result.andThen]
    exact hK' _ _ (hK w' r1 r2)
theorem wp_look_ok {P : Program} (w : World) {ops : Array Oper} {rest : List Oper} {o : Oper} {a : Act} {Q : Exit → Act → World → Prop}
    (hg : o.guard = none) (m x : Operand) (t : TypeId) (hop : o.op = Op.lookup t m x true)
    (k e : TypeId) (K : Keyed P k) (ht : P.underlying t = some (.map k e)) (he : P.underlying e = some (.int .i64)) (hz : (zeroValue e).run P w = .ok (.int .i64 0) w) (b n : Nat) (f : Lit → Option Int)
    (hm : a.eval m = .map (some b)) (hown : MapF P k e w b n f) (key : Value) (kl : Lit) (hx : a.eval x = key) (hkey : keyOf P k key = some kl)
    (hK : wpList P ops Q rest (a.put o.dst (.tuple #[.int .i64 ((f kl).getD 0), .bool (f kl).isSome])) w) :
    wpList P ops Q (o :: rest) a w := by
  refine wpList_plain hg fun K' hK' => ?_
  have hrun := hown.look_ok K ht he hz hkey
  unfold Oper.wp
  simp [execOp, hop, hm, hx, hrun, Result.andThen]
  exact hK' _ _ hK
theorem wp_look {P : Program} (w : World) {ops : Array Oper} {rest : List Oper} {o : Oper} {a : Act} {Q : Exit → Act → World → Prop}
    (hg : o.guard = none) (m x : Operand) (t : TypeId) (hop : o.op = Op.lookup t m x false)
    (k e : TypeId) (K : Keyed P k) (ht : P.underlying t = some (.map k e)) (he : P.underlying e = some (.int .i64)) (hz : (zeroValue e).run P w = .ok (.int .i64 0) w) (b n : Nat) (f : Lit → Option Int)
    (hm : a.eval m = .map (some b)) (hown : MapF P k e w b n f) (key : Value) (kl : Lit) (hx : a.eval x = key) (hkey : keyOf P k key = some kl)
    (hK : wpList P ops Q rest (a.put o.dst (.int .i64 ((f kl).getD 0))) w) :
    wpList P ops Q (o :: rest) a w := by
  refine wpList_plain hg fun K' hK' => ?_
  have hrun := hown.look K ht he hz hkey
  unfold Oper.wp
  simp [execOp, hop, hm, hx, hrun, Result.andThen]
  exact hK' _ _ hK
end Go.Proofs.Ytejdnanhnkjaoaa.Own
