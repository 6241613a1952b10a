/- The plain law of SymtabBack: what was written is read again, Local symbols first, and written the same. -/
import Derived.Test.YtejdnanhnkjaoaaStmtSymtabBack
import Derived.Test.YtejdnanhnkjaoaaSymBack
import Derived.Test.YtejdnanhnkjaoaaLive
namespace Go.Proofs.Ytejdnanhnkjaoaa.Pure
set_option linter.unusedVariables false
set_option linter.unusedSimpArgs false
open Go.RowKit Go.Proofs.Ytejdnanhnkjaoaa.G Go.Proofs.Ytejdnanhnkjaoaa.Stmt Go.Proofs.YtejdnanhnkjaoaaW.PrintWords Go.Proofs.YtejdnanhnkjaoaaW.PrintLast Go.Proofs.YtejdnanhnkjaoaaW.PrintMore Go.Proofs.Ytejdnanhnkjaoaa.Bit Go.Proofs.Ytejdnanhnkjaoaa.Sym Go.Proofs.Ytejdnanhnkjaoaa.SymW Go.Proofs.Ytejdnanhnkjaoaa.SymR Go.Proofs.Ytejdnanhnkjaoaa.SymB
theorem filt_get (q : S58 → Bool) (l : List S58) (i : Nat) (hi : i < l.length) (hq : q l[i] = true) : (l.filter q)[((l.take i).filter q).length]? = some l[i] ∧ ((l.take (i + 1)).filter q).length = ((l.take i).filter q).length + 1 := by
  have e : l.filter q = (l.take i).filter q ++ l[i] :: (l.drop (i + 1)).filter q := by
    have : l = l.take i ++ l[i] :: l.drop (i + 1) := by rw [← List.drop_eq_getElem_cons hi, List.take_append_drop]
    have h2 := congrArg (List.filter q) this
    rw [List.filter_append, List.filter_cons, hq] at h2
    exact h2
  constructor
  · rw [e, List.getElem?_append_right (Nat.le_refl _)]
    simp
  · rw [← List.take_append_getElem hi, List.filter_append, List.length_append]
    simp [hq]
theorem filt_not (q : S58 → Bool) (l : List S58) (i : Nat) (hi : i < l.length) (hq : q l[i] = false) : ((l.take (i + 1)).filter q).length = ((l.take i).filter q).length := by
  rw [← List.take_append_getElem hi, List.filter_append, List.length_append]
  simp [hq]
theorem back_l0 (l : List S58) (secs : List ByteArray) (B strs : List Int) (hl : l.length ≤ 2000) (d : Nat) : ∀ k i, i + d = (ordered l).length → gangwaylaw08_SymtabBack.l0 (k + d + 1) l secs B strs (1 + ((locals l).length : Int)) (ordered l) 0 (i : Int) = gangwaylaw08_SymtabBack.l1 k l secs B strs (1 + ((locals l).length : Int)) (ordered l) 0 0 := by
  have hol := ordered_length l
  induction d with
  | zero =>
    intro k i h
    rw [gangwaylaw08_SymtabBack.l0, if_neg (by omega)]
  | succ d ih =>
    intro k i h
    have hi : i < (ordered l).length := by omega
    have ht : (((rd_T58 (ordered l) (i : Int)).f4 == 0) != decide (wrap64 ((i : Int) + 1) < 1 + ((locals l).length : Int))) = false := by
      rw [rd_sym _ i hi, wrap64_id (by omega) (by omega)]
      by_cases c : i < (locals l).length
      · have e : (ordered l)[i] = (locals l)[i] := List.getElem_append_left c
        have hm := List.getElem_mem c
        have h0 : (locals l)[i].f4 = 0 := by simpa using (List.mem_filter.1 hm).2
        rw [decide_eq_true (by omega), e, h0]
        rfl
      · have hig : i - (locals l).length < (globals l).length := by
          have : (ordered l).length = (locals l).length + (globals l).length := List.length_append
          omega
        have e : (ordered l)[i] = (globals l)[i - (locals l).length] := List.getElem_append_right (by omega)
        have hm := List.getElem_mem hig
        have h0 : ¬ (globals l)[i - (locals l).length].f4 = 0 := by simpa using (List.mem_filter.1 hm).2
        rw [decide_eq_false (by omega), e, beq_eq_false_iff_ne.2 h0]
        rfl
    rw [show k + (d + 1) + 1 = (k + d + 1) + 1 from by omega, gangwaylaw08_SymtabBack.l0, if_pos (by omega), if_pos (by omega), ht, if_neg (by decide), wrap64_id (by omega) (by omega), show (i : Int) + 1 = ((i + 1 : Nat) : Int) from by omega, ih k (i + 1) (by omega)]
theorem back_l2 (l : List S58) (secs : List ByteArray) (B strs : List Int) (n : Int) (hl : l.length ≤ 2000) (p : Int) (base : Nat) (q : S58 → Bool) (hq : ∀ x, q x = ((x.f4 == 0) == (p == 0))) (hb : base ≤ 2000) (ho : ∀ j y, (l.filter q)[j]? = some y → (ordered l)[base + j]? = some y) (d : Nat) : ∀ k i, i + d = l.length → gangwaylaw08_SymtabBack.l2 (k + d + 1) l secs B strs n (ordered l) ((base + ((l.take i).filter q).length : Nat) : Int) p (i : Int) = gangwaylaw08_SymtabBack.l1 k l secs B strs n (ordered l) ((base + (l.filter q).length : Nat) : Int) (wrap64 (p + 1)) := by
  induction d with
  | zero =>
    intro k i h
    rw [gangwaylaw08_SymtabBack.l2, if_neg (by omega), List.take_of_length_le (by omega)]
  | succ d ih =>
    intro k i h
    have hi : i < l.length := by omega
    have hfl : ((l.take i).filter q).length ≤ i := by
      have := List.length_filter_le q (l.take i)
      rw [List.length_take] at this
      omega
    rw [show k + (d + 1) + 1 = (k + d + 1) + 1 from by omega, gangwaylaw08_SymtabBack.l2, if_pos (by omega), if_pos (by omega), rd_sym l i hi, ← hq l[i]]
    cases hc : q l[i] with
    | true =>
      obtain ⟨h1, h2⟩ := filt_get q l i hi hc
      have h3 := ho _ _ h1
      obtain ⟨hlt, h4⟩ := List.getElem?_eq_some_iff.1 h3
      rw [if_pos rfl, if_pos (by omega), if_pos (by omega), rd_sym _ _ hlt, h4]
      rw [if_neg (by simp), wrap64_id (n := ((base + ((l.take i).filter q).length : Nat) : Int) + 1) (by omega) (by omega), wrap64_id (n := (i : Int) + 1) (by omega) (by omega), show (i : Int) + 1 = ((i + 1 : Nat) : Int) from by omega, show ((base + ((l.take i).filter q).length : Nat) : Int) + 1 = ((base + ((l.take (i + 1)).filter q).length : Nat) : Int) from by omega, ih k (i + 1) (by omega)]
    | false =>
      have h2 := filt_not q l i hi hc
      rw [if_neg (by decide), wrap64_id (n := (i : Int) + 1) (by omega) (by omega), show (i : Int) + 1 = ((i + 1 : Nat) : Int) from by omega, ← h2, ih k (i + 1) (by omega)]
theorem write_err {l : List S58} {secs : List ByteArray} {a b : List Int} {n e : Int} (h : writeF l secs = some (a, b, n, e)) (he : e ≠ 0) : a = [] ∧ b = [] ∧ n = 0 := by
  unfold writeF at h
  split at h
  · simp only [Option.some.injEq, Prod.mk.injEq] at h
    exact ⟨h.1.symm, h.2.1.symm, h.2.2.1.symm⟩
  · split at h
    · split at h
      · cases h
      · split at h
        · simp only [Option.some.injEq, Prod.mk.injEq] at h
          exact ⟨h.1.symm, h.2.1.symm, h.2.2.1.symm⟩
        · split at h
          · simp only [Option.some.injEq, Prod.mk.injEq] at h
            exact absurd h.2.2.2.symm he
          · cases h
    · cases h
theorem SymtabBack : Stmt.SymtabBack := by
  intro l0 l1 h0 h1
  obtain ⟨⟨B, strs, n, e⟩, hr⟩ := write_some l0 l1
  by_cases he : e = 0
  · subst he
    have hc : symCheck l0 l1 = 0 := by
      apply Classical.byContradiction
      intro hc
      unfold writeF at hr
      rw [if_pos hc] at hr
      simp only [Option.some.injEq, Prod.mk.injEq] at hr
      exact hc hr.2.2.2
    obtain ⟨hl, hs, -, -⟩ := check_ok hc
    obtain ⟨hread, hB, hn, hst⟩ := read_back hr hc
    have hol := ordered_length l0
    have hw := write_ordered hc
    rw [hr] at hw
    subst hn
    obtain ⟨K, hK⟩ : ∃ K, K = 1 + (l0.length + 1) + 1 + (l0.length + 1) + 1 + (l0.length + 1) + 1 := ⟨_, rfl⟩
    refine ⟨K, ?_⟩
    unfold gangwaylaw08_SymtabBack.f
    rw [show symtab_Write.f l0 l1 = _ from hr, Option.bind_some]
    unfold gangwaylaw08_num.f
    rw [Option.bind_some, if_pos rfl, show symtab_Read.f B strs (1 + ((locals l0).length : Int)) l1 = _ from hread, Option.bind_some, Option.bind_some, if_pos rfl, hol]
    have hne : ((l0.length : Int) != (l0.length : Int)) = false := by simp
    rw [hne]
    have hloc : ∀ j y, (l0.filter (fun x => (x.f4 == 0) == ((0 : Int) == 0)))[j]? = some y → (ordered l0)[0 + j]? = some y := by
      intro j y h
      have e : l0.filter (fun x => (x.f4 == 0) == ((0 : Int) == 0)) = locals l0 := by
        unfold locals
        congr 1
        funext x
        by_cases c : x.f4 = 0 <;> simp [c]
      rw [e] at h
      rw [Nat.zero_add]
      unfold ordered
      obtain ⟨hj, -⟩ := List.getElem?_eq_some_iff.1 h
      rw [List.getElem?_append_left hj]
      exact h
    have hloce : l0.filter (fun x => (x.f4 == 0) == ((0 : Int) == 0)) = locals l0 := by
      unfold locals
      congr 1
      funext x
      by_cases c : x.f4 = 0 <;> simp [c]
    have hglo : ∀ j y, (l0.filter (fun x => (x.f4 == 0) == ((1 : Int) == 0)))[j]? = some y → (ordered l0)[(locals l0).length + j]? = some y := by
      intro j y h
      have e : l0.filter (fun x => (x.f4 == 0) == ((1 : Int) == 0)) = globals l0 := by
        unfold globals
        congr 1
        funext x
        by_cases c : x.f4 = 0 <;> simp [c]
      rw [e] at h
      unfold ordered
      rw [List.getElem?_append_right (by omega), Nat.add_sub_cancel_left]
      exact h
    have hle := locals_le l0
    have s0 := back_l0 l0 l1 B strs hl l0.length (1 + (l0.length + 1) + 1 + (l0.length + 1) + 1) 0 (by omega)
    have s1 := back_l2 l0 l1 B strs (1 + ((locals l0).length : Int)) hl 0 0 (fun x => (x.f4 == 0) == ((0 : Int) == 0)) (fun _ => rfl) (by omega) hloc l0.length (1 + (l0.length + 1) + 1) 0 (by omega)
    have s2 := back_l2 l0 l1 B strs (1 + ((locals l0).length : Int)) hl 1 (locals l0).length (fun x => (x.f4 == 0) == ((1 : Int) == 0)) (fun _ => rfl) (by omega) hglo l0.length 1 0 (by omega)
    rw [List.take_zero, List.filter_nil, List.length_nil, Nat.add_zero] at s1 s2
    rw [hK]
    show gangwaylaw08_SymtabBack.j0 ((1 + (l0.length + 1) + 1 + (l0.length + 1) + 1 + (l0.length + 1)) + 1) l0 l1 B strs (1 + ((locals l0).length : Int)) (ordered l0) false = some true
    rw [gangwaylaw08_SymtabBack.j0, if_neg (by decide)]
    refine Eq.trans (show gangwaylaw08_SymtabBack.l0 (1 + (l0.length + 1) + 1 + (l0.length + 1) + 1 + (l0.length + 1)) l0 l1 B strs (1 + ((locals l0).length : Int)) (ordered l0) 0 0 = _ from s0) ?_
    show gangwaylaw08_SymtabBack.l1 ((1 + (l0.length + 1) + 1 + (l0.length + 1)) + 1) l0 l1 B strs (1 + ((locals l0).length : Int)) (ordered l0) 0 0 = some true
    rw [gangwaylaw08_SymtabBack.l1, if_pos (by decide)]
    refine Eq.trans (show gangwaylaw08_SymtabBack.l2 (1 + (l0.length + 1) + 1 + (l0.length + 1)) l0 l1 B strs (1 + ((locals l0).length : Int)) (ordered l0) 0 0 0 = _ from s1) ?_
    rw [hloce, Nat.zero_add, show wrap64 (0 + 1) = 1 from by decide +kernel]
    show gangwaylaw08_SymtabBack.l1 ((1 + (l0.length + 1)) + 1) l0 l1 B strs (1 + ((locals l0).length : Int)) (ordered l0) ((locals l0).length : Int) 1 = some true
    rw [gangwaylaw08_SymtabBack.l1, if_pos (by decide)]
    refine Eq.trans (show gangwaylaw08_SymtabBack.l2 (1 + (l0.length + 1)) l0 l1 B strs (1 + ((locals l0).length : Int)) (ordered l0) ((locals l0).length : Int) 1 0 = _ from s2) ?_
    rw [show wrap64 (1 + 1) = 2 from by decide +kernel]
    show gangwaylaw08_SymtabBack.l1 (0 + 1) l0 l1 B strs (1 + ((locals l0).length : Int)) (ordered l0) _ 2 = some true
    rw [gangwaylaw08_SymtabBack.l1, if_neg (by decide), show symtab_Write.f (ordered l0) l1 = _ from hw, Option.bind_some]
    unfold gangwaylaw08_num.f
    rw [Option.bind_some, if_pos rfl, if_pos rfl, if_pos rfl, if_pos rfl, wrap64_id (n := (l0.length : Int) + 1) (by omega) (by omega), wrap64_id (by omega) (by omega), if_pos (by omega), live_true]
    rfl
  · obtain ⟨rfl, rfl, rfl⟩ := write_err hr he
    refine ⟨1, ?_⟩
    unfold gangwaylaw08_SymtabBack.f
    rw [show symtab_Write.f l0 l1 = _ from hr, Option.bind_some]
    unfold gangwaylaw08_num.f
    rw [Option.bind_some, if_neg he, live_true]
    exact (if_pos (show wrap64 (0 + 0) = 0 by decide +kernel)).trans rfl
end Go.Proofs.Ytejdnanhnkjaoaa.Pure
