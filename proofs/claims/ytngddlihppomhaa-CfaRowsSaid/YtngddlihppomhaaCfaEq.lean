/- Rows compared by value: '==' of two rows, and of two arrays of rules. -/
import Derived.Test.YtngddlihppomhaaCfaTab
import Derived.Laws.StructEq
namespace Go.Proofs.Ytngddlihppomhaa.Cfa
set_option linter.unusedVariables false
set_option linter.unusedSimpArgs false
open Go.RowKit Go.Proofs.Ytngddlihppomhaa.G Go.Proofs.YtngddlihppomhaaW.PrintWords Go.Proofs.YtngddlihppomhaaW.PrintLast Go.Proofs.YtngddlihppomhaaW.PrintMore

/-- The parts of two arrays, one by one. -/
def eqParts (d : Nat) (e : TypeId) (n : Nat) (xs ys : Array Value) : List Nat → Sem Bool
  | [] => pure true
  | i :: l => do
    let a ← part e xs (i * n)
    let b ← part e ys (i * n)
    let r ← Op.equalIn d e a b
    if (!r) = true then pure false else eqParts d e n xs ys l
section
variable {P : Program}
theorem run_equalIn_array (w : World) (d : Nat) (t e : TypeId) (len n : Nat) (xs ys : Array Value) (ht : P.underlying t = some (.array len e)) (hs : (sizeOf e).run P w = .ok n w) :
    (Op.equalIn (d + 1) t (.agg xs) (.agg ys)).run P w = (eqParts d e n xs ys (List.range' 0 len)).run P w := by
  simp only [Op.equalIn, Sem.run_bind, run_underlying ht, Result.andThen_ok, hs]
  rw [Std.Legacy.Range.forIn_eq_forIn_range']
  simp only [Std.Legacy.Range.size, Nat.sub_zero, Nat.add_sub_cancel, Nat.div_one]
  generalize List.range' 0 len = fs
  clear ht hs
  induction fs generalizing w with
  | nil => simp [eqParts]
  | cons f fs ih =>
    simp only [List.forIn_cons, eqParts, Sem.run_bind, Sem.run_ite]
    generalize (part e xs (f * n)).run P w = r1
    cases r1 with
    | ok a w1 =>
      simp only [Result.andThen_ok]
      generalize (part e ys (f * n)).run P w1 = r2
      cases r2 with
      | ok b w2 =>
        simp only [Result.andThen_ok]
        generalize (Op.equalIn d e a b).run P w2 = r3
        cases r3 with
        | ok r w3 =>
          cases r
          · simp only [Result.andThen_ok, Bool.not_false, if_true, Sem.run_pure]
          · simp only [Result.andThen_ok, Bool.not_true, Bool.false_eq_true, if_false, Sem.run_pure]
            exact ih w3
        | halt x w3 => simp [Result.andThen]
      | halt x w2 => simp [Result.andThen]
    | halt x w1 => simp [Result.andThen]
end
section
variable (w : World)
theorem ru_stood : Try.prog.stoodInHeld 32 = false := by kernel_rfl
theorem row_stood : Try.prog.stoodInHeld 35 = false := by kernel_rfl
theorem agg_int : (isAgg 3).run Try.prog w = .ok false w := by kernel_rfl
theorem agg_rule : (isAgg 32).run Try.prog w = .ok true w := by kernel_rfl
theorem agg_rules : (isAgg 33).run Try.prog w = .ok true w := by kernel_rfl
theorem size_rule : (sizeOf 32).run Try.prog w = .ok 2 w := by kernel_rfl
theorem size_rules : (sizeOf 33).run Try.prog w = .ok 34 w := by kernel_rfl
theorem part_int {l : List Int} {i : Nat} (hi : i < l.length) : (part 3 (nums .i64 l).toArray i).run Try.prog w = .ok (.int .i64 (l.getD i 0)) w := by
  unfold part
  simp only [Sem.run_bind, agg_int, Result.andThen_ok, Bool.false_eq_true, if_false, List.getElem?_toArray, nums_get hi, Sem.run_pure]
theorem ext_nums (l : List Int) (a b : Nat) : (nums .i64 l).toArray.extract a b = (nums .i64 ((l.drop a).take (b - a))).toArray := by
  rw [List.extract_toArray]
  simp only [nums, List.map_take, List.map_drop, List.extract_eq_take_drop]
theorem part_rule {l : List Int} (i : Nat) : (part 32 (nums .i64 l).toArray i).run Try.prog w = .ok (.agg (nums .i64 ((l.drop i).take 2)).toArray) w := by
  unfold part
  simp only [Sem.run_bind, agg_rule, size_rule, Result.andThen_ok, if_true, Sem.run_pure, ext_nums, Nat.add_sub_cancel_left]
theorem part_rules {l : List Int} (i : Nat) : (part 33 (nums .i64 l).toArray i).run Try.prog w = .ok (.agg (nums .i64 ((l.drop i).take 34)).toArray) w := by
  unfold part
  simp only [Sem.run_bind, agg_rules, size_rules, Result.andThen_ok, if_true, Sem.run_pure, ext_nums, Nat.add_sub_cancel_left]
theorem eq_int (d : Nat) (a b : Int) : (Op.equalIn (d + 1) 3 (.int .i64 a) (.int .i64 b)).run Try.prog w = .ok (a == b) w := run_equalIn_int w d 3 .i64 .i64 a b Try.underlying3
theorem eq_rule (d : Nat) (l m : List Int) (hl : l.length = 2) (hm : m.length = 2) : (Op.equalIn (d + 2) 32 (.agg (nums .i64 l).toArray) (.agg (nums .i64 m).toArray)).run Try.prog w = .ok (decide (l = m)) w := by
  match l, m, hl, hm with
  | [a, b], [c, e], _, _ =>
    have h := eqA_of (P := Try.prog) (w := w) (d := d + 1) (xs := (nums .i64 [a, b]).toArray) (ys := (nums .i64 [c, e]).toArray) (r := (a == c) && (b == e)) Try.underlying32 ru_stood
      (eqf_cons (by rfl) (part_int w (l := [a, b]) (i := 0) (by simp)) (part_int w (l := [c, e]) (i := 0) (by simp)) (eq_int w d _ _) (eqf_last (by rfl) (part_int w (l := [a, b]) (i := 1) (by simp)) (part_int w (l := [c, e]) (i := 1) (by simp)) (eq_int w d _ _)))
    have hb : (decide ([a, b] = [c, e])) = ((a == c) && (b == e)) := by
      rw [Bool.eq_iff_iff]
      simp
    rw [hb]
    exact h
theorem eq_parts (d : Nat) (l m : List Int) (hl : l.length = 34) (hm : m.length = 34) : ∀ is : List Nat, (∀ i ∈ is, i < 17) →
    (eqParts (d + 2) 32 2 (nums .i64 l).toArray (nums .i64 m).toArray is).run Try.prog w = .ok (is.all fun i => decide ((l.drop (i * 2)).take 2 = (m.drop (i * 2)).take 2)) w
  | [], _ => rfl
  | i :: is, h => by
    have hi := h i List.mem_cons_self
    have h2 : ∀ x : List Int, x.length = 34 → ((x.drop (i * 2)).take 2).length = 2 := fun x hx => by rw [List.length_take, List.length_drop, hx]; omega
    simp only [eqParts, Sem.run_bind, part_rule, Result.andThen_ok, eq_rule w d _ _ (h2 l hl) (h2 m hm), List.all_cons]
    by_cases c : (l.drop (i * 2)).take 2 = (m.drop (i * 2)).take 2
    · rw [decide_eq_true c]
      simp only [Bool.not_true, Bool.false_eq_true, if_false, Bool.true_and]
      exact eq_parts d l m hl hm is (fun j hj => h j (List.mem_cons_of_mem _ hj))
    · rw [decide_eq_false c]
      simp
theorem rules_ext {l m : List Int} (hl : l.length = 34) (hm : m.length = 34) : ((List.range' 0 17).all fun i => decide ((l.drop (i * 2)).take 2 = (m.drop (i * 2)).take 2)) = decide (l = m) := by
  rw [Bool.eq_iff_iff, List.all_eq_true]
  simp only [decide_eq_true_eq]
  constructor
  · intro h
    apply List.ext_getElem (by omega)
    intro j h1 h2
    have hj := h (j / 2) (by simp; omega)
    have e := congrArg (fun x => x[j % 2]?) hj
    simp only [List.getElem?_take, List.getElem?_drop] at e
    rw [if_pos (by omega), if_pos (by omega), show j / 2 * 2 + j % 2 = j from by omega, List.getElem?_eq_getElem h1, List.getElem?_eq_getElem h2] at e
    exact Option.some.inj e
  · rintro rfl _ _
    rfl
theorem eq_rules (d : Nat) (l m : List Int) (hl : l.length = 34) (hm : m.length = 34) : (Op.equalIn (d + 3) 33 (.agg (nums .i64 l).toArray) (.agg (nums .i64 m).toArray)).run Try.prog w = .ok (decide (l = m)) w := by
  rw [run_equalIn_array w (d + 2) 33 32 17 2 _ _ Try.underlying33 (size_rule w), eq_parts w d l m hl hm _ (fun i hi => by simpa using hi), rules_ext hl hm]
theorem row_split {l : List Int} (hl : l.length = 37) : l = l.getD 0 0 :: l.getD 1 0 :: l.getD 2 0 :: (l.drop 3).take 34 := by
  match l, hl with
  | a :: b :: c :: r, h =>
    simp only [List.length_cons] at h
    simp only [List.getD_cons_zero, List.getD_cons_succ, List.drop_succ_cons, List.drop_zero]
    rw [List.take_of_length_le (by omega)]
theorem eq_row (d : Nat) (l m : List Int) (hl : l.length = 37) (hm : m.length = 37) : (Op.equalIn (d + 4) 35 (.agg (nums .i64 l).toArray) (.agg (nums .i64 m).toArray)).run Try.prog w = .ok (decide (l = m)) w := by
  have h34 : ∀ x : List Int, x.length = 37 → ((x.drop 3).take 34).length = 34 := fun x hx => by rw [List.length_take, List.length_drop, hx]; decide
  have h := eqA_of (P := Try.prog) (w := w) (d := d + 3) (xs := (nums .i64 l).toArray) (ys := (nums .i64 m).toArray) (r := (l.getD 0 0 == m.getD 0 0) && ((l.getD 1 0 == m.getD 1 0) && ((l.getD 2 0 == m.getD 2 0) && decide ((l.drop 3).take 34 = (m.drop 3).take 34)))) Try.underlying35 row_stood
    (eqf_cons (by rfl) (part_int w (i := 0) (by omega)) (part_int w (i := 0) (by omega)) (eq_int w _ _ _) (eqf_cons (by rfl) (part_int w (i := 1) (by omega)) (part_int w (i := 1) (by omega)) (eq_int w _ _ _)
      (eqf_cons (by rfl) (part_int w (i := 2) (by omega)) (part_int w (i := 2) (by omega)) (eq_int w _ _ _) (eqf_last (by rfl) (part_rules w 3) (part_rules w 3) (eq_rules w d _ _ (h34 l hl) (h34 m hm))))))
  have hb : decide (l = m) = ((l.getD 0 0 == m.getD 0 0) && ((l.getD 1 0 == m.getD 1 0) && ((l.getD 2 0 == m.getD 2 0) && decide ((l.drop 3).take 34 = (m.drop 3).take 34)))) := by
    rw [Bool.eq_iff_iff]
    simp only [Bool.and_eq_true, beq_iff_eq, decide_eq_true_eq]
    constructor
    · rintro rfl
      exact ⟨rfl, rfl, rfl, rfl⟩
    · rintro ⟨h0, h1, h2, h3⟩
      rw [row_split hl, row_split hm, h0, h1, h2, h3]
  rw [hb]
  exact h
theorem row_eql (l m : List Int) (hl : l.length = 37) (hm : m.length = 37) : (Op.equal 35 (.agg (nums .i64 l).toArray) (.agg (nums .i64 m).toArray)).run Try.prog w = .ok (decide (l = m)) w := eq_row w 9996 l m hl hm
theorem rules_eql (l m : List Int) (hl : l.length = 34) (hm : m.length = 34) : (Op.equal 33 (.agg (nums .i64 l).toArray) (.agg (nums .i64 m).toArray)).run Try.prog w = .ok (decide (l = m)) w := eq_rules w 9997 l m hl hm
theorem row_guard : Try.prog.eqGuardType Try.prog.depth 35 = false := by kernel_rfl
theorem rules_guard : Try.prog.eqGuardType Try.prog.depth 33 = false := by kernel_rfl
theorem eql_row_run {o : Oper} {a : Act} (x y : Operand) (ho : o.op = .binOp .eql 35 x y 35) (l m : List Int) (hl : l.length = 37) (hm : m.length = 37) (hx : a.eval x = .agg (nums .i64 l).toArray) (hy : a.eval y = .agg (nums .i64 m).toArray) :
    (execOp a.eval o).run Try.prog w = .ok (.value (.bool (decide (l = m)))) w := by
  unfold execOp
  simp only [ho, hx, hy, Sem.run_bind, run_eqGuard_agg w .eql 35 x y _ _ row_guard, Result.andThen_ok, binOp, row_eql w l m hl hm, Sem.run_pure]
theorem neq_row_run {o : Oper} {a : Act} (x y : Operand) (ho : o.op = .binOp .neq 35 x y 35) (l m : List Int) (hl : l.length = 37) (hm : m.length = 37) (hx : a.eval x = .agg (nums .i64 l).toArray) (hy : a.eval y = .agg (nums .i64 m).toArray) (w : World) :
    (execOp a.eval o).run Try.prog w = .ok (.value (.bool (!decide (l = m)))) w := by
  unfold execOp
  simp only [ho, hx, hy, Sem.run_bind, run_eqGuard_agg w .neq 35 x y _ _ row_guard, Result.andThen_ok, binOp, row_eql w l m hl hm, Sem.run_pure]
theorem eql_rules_run {o : Oper} {a : Act} (x y : Operand) (ho : o.op = .binOp .eql 33 x y 33) (l m : List Int) (hl : l.length = 34) (hm : m.length = 34) (hx : a.eval x = .agg (nums .i64 l).toArray) (hy : a.eval y = .agg (nums .i64 m).toArray) :
    (execOp a.eval o).run Try.prog w = .ok (.value (.bool (decide (l = m)))) w := by
  unfold execOp
  simp only [ho, hx, hy, Sem.run_bind, run_eqGuard_agg w .eql 33 x y _ _ rules_guard, Result.andThen_ok, binOp, rules_eql w l m hl hm, Sem.run_pure]
theorem eql_rules_same {o : Oper} {a : Act} (x y : Operand) (ho : o.op = .binOp .eql 33 x y 33) (l : List Int) (hl : l.length = 34) (hx : a.eval x = .agg (nums .i64 l).toArray) (hy : a.eval y = .agg (nums .i64 l).toArray) :
    (execOp a.eval o).run Try.prog w = .ok (.value (.bool true)) w := by
  rw [eql_rules_run w x y ho l l hl hl hx hy, decide_eq_true rfl]
end
theorem load_rulesW {ops : Array Oper} {rest : List Oper} {op : Oper} {a : Act} {w : World} {Q : Exit → Act → World → Prop} (hgd : op.guard = none) (x : Operand) (ho : op.op = .load 33 x) (b o : Nat) (hx : a.eval x = .pointer (some ⟨b, o, none⟩)) (l : List Int) (hl : l.length = 34) (hc : w.rangeAt b o (nums .i64 l))
    (h : wpList Try.prog ops Q rest (a.put op.dst (.agg (nums .i64 l).toArray)) w) : wpList Try.prog ops Q (op :: rest) a w :=
  wpList_load_mid hgd 33 x ho b o hx _ _ hc Try.underlying33 rfl (by rw [nums_length, hl]; kernel_rfl) h
end Go.Proofs.Ytngddlihppomhaa.Cfa
