/- More ops behind a program: the first rows stand. What is kept comes back. -/
import Derived.Test.YtngddlihppomhaaCfaLaw
namespace Go.Proofs.Ytngddlihppomhaa.Cfa
set_option linter.unusedVariables false
set_option linter.unusedSimpArgs false
open Go.RowKit Go.Proofs.Ytngddlihppomhaa.G Go.Proofs.YtngddlihppomhaaW.PrintWords Go.Proofs.YtngddlihppomhaaW.PrintLast Go.Proofs.YtngddlihppomhaaW.PrintMore

theorem doAll_append {t : T} : ∀ (a b : List (Int × Int × Int)), doAll t (a ++ b) = (doAll t a).bind fun t' => doAll t' b
  | [], b => rfl
  | o :: a, b => by
    rw [List.cons_append, doAll_cons, doAll_cons]
    cases does t o.1 o.2.1 o.2.2 with
    | none => rfl
    | some t2 => exact doAll_append a b
theorem rows_longer {a b c : List (Int × Int × Int)} {size : Int} (h : (rowsOf a b size).2 ≠ 0) : (rowsOf a (b ++ c) size).2 ≠ 0 := by
  unfold rowsOf at h ⊢
  by_cases c1 : size < 0 ∨ 1048576 < size
  · rw [if_pos c1]; decide
  rw [if_neg c1] at h ⊢
  by_cases c2 : 4000 < a.length ∨ 4000 < b.length
  · rw [if_pos (by rw [List.length_append]; omega)]; decide
  rw [if_neg c2] at h
  by_cases c3 : 4000 < a.length ∨ 4000 < (b ++ c).length
  · rw [if_pos c3]; decide
  rw [if_neg c3]
  unfold run at h ⊢
  cases hb : begin_ (fresh size) a with
  | none => simp
  | some t1 =>
    rw [hb] at h
    simp only [Option.bind_some] at h ⊢
    rw [doAll_append]
    cases hd : doAll t1 b with
    | none => simp
    | some t => rw [hd] at h; exact absurd rfl h
/-- The rows of t are the first rows of t', and the next one begins where t is. -/
structure Grows (t t' : T) : Prop where
  good : Good t'
  size : 0 ≤ t'.size
  ex : ∃ X, t'.rows = t.rows ++ X ∧ ∀ r l, X ++ [t'.now] = r :: l → at0 r = at0 t.now
theorem Grows.turn {t t1 t2 : T} (h : Grows t t1) (g : Good t2) (hs : t2.size = t1.size) (hr : t2.rows = t1.rows) (ha : at0 t2.now = at0 t1.now) : Grows t t2 := by
  obtain ⟨X, h1, h2⟩ := h.ex
  exact ⟨g, by rw [hs]; exact h.size, X, by rw [hr, h1], head_eq h2 ha⟩
where
  head_eq {l : List Row} {a b : Row} {x : Int} (h : ∀ r l', l ++ [a] = r :: l' → at0 r = x) (e : at0 b = at0 a) : ∀ r l', l ++ [b] = r :: l' → at0 r = x := by
    intro r l' hr
    cases l with
    | nil =>
      simp only [List.nil_append, List.cons.injEq] at hr
      rw [← hr.1, e]
      exact h a [] rfl
    | cons c l =>
      simp only [List.cons_append, List.cons.injEq] at hr
      rw [← hr.1]
      exact h c (l ++ [a]) rfl
/-- What an op does to rows and place. -/
theorem act_rows {t t' : T} {k r n : Int} (h : Good t) (hm : mayF k r n = true) (e : act t k r n = some t') : t'.size = t.size ∧ ((t'.rows = t.rows ∧ at0 t'.now = at0 t.now) ∨ t'.rows = t.rows ++ [t.now]) := by
  have hs := (act_size e).1
  refine ⟨hs, ?_⟩
  have hn37 := h.now
  have h0 := ru_ne r
  unfold act at e
  rcases ite_cases e with ⟨cc, e⟩ | ⟨cc, e⟩
  · cases e; exact .inl ⟨rfl, rfl⟩
  rcases ite_cases e with ⟨cc, e⟩ | ⟨_, e⟩
  · rcases ite_cases e with ⟨c0, e⟩ | ⟨c0, e⟩
    · cases e; exact .inl ⟨rfl, rfl⟩
    rcases ite_cases e with ⟨cs, e⟩ | ⟨cs, e⟩
    · cases e; exact .inr rfl
    · cases e
  rcases ite_cases e with ⟨_, e⟩ | ⟨_, e⟩
  · cases e; exact .inl ⟨rfl, (at_set (by decide) _).trans (at_set (by decide) _)⟩
  rcases ite_cases e with ⟨_, e⟩ | ⟨_, e⟩
  · rcases ite_cases e with ⟨_, e⟩ | ⟨_, e⟩
    · cases e; exact .inl ⟨rfl, at_set (by decide) _⟩
    · cases e
  rcases ite_cases e with ⟨_, e⟩ | ⟨_, e⟩
  · rcases ite_cases e with ⟨_, e⟩ | ⟨_, e⟩
    · cases e; exact .inl ⟨rfl, at_set (by decide) _⟩
    · cases e
  rcases ite_cases e with ⟨_, e⟩ | ⟨_, e⟩
  · cases e; exact .inl ⟨rfl, (at_set h0.2 _).trans (at_set h0.1 _)⟩
  rcases ite_cases e with ⟨_, e⟩ | ⟨_, e⟩
  · cases e; exact .inl ⟨rfl, (at_set h0.2 _).trans (at_set h0.1 _)⟩
  rcases ite_cases e with ⟨_, e⟩ | ⟨_, e⟩
  · cases e; exact .inl ⟨rfl, (at_set h0.2 _).trans (at_set h0.1 _)⟩
  rcases ite_cases e with ⟨_, e⟩ | ⟨_, e⟩
  · cases e; exact .inl ⟨rfl, (at_set h0.2 _).trans (at_set h0.1 _)⟩
  rcases ite_cases e with ⟨_, e⟩ | ⟨_, e⟩
  · rcases ite_cases e with ⟨_, e⟩ | ⟨_, e⟩
    · cases e; exact .inl ⟨rfl, rfl⟩
    · cases e
  rcases ite_cases e with ⟨_, e⟩ | ⟨cc, e⟩
  · cases e
  · cases e
    have hl := h.kept _ (getLastD_mem cc)
    exact .inl ⟨rfl, getD_set_eq (by omega) _⟩
theorem does_act {t t' : T} {k r n : Int} (e : does t k r n = some t') : mayF k r n = true ∧ act t k r n = some t' := by
  unfold does at e
  rcases ite_cases e with ⟨ca, e⟩ | ⟨ca, e⟩
  · cases e
  rcases ite_cases e with ⟨cc, e⟩ | ⟨cc, e⟩
  · cases e
  exact ⟨by simpa using ca, e⟩
theorem grows_does {t t1 t2 : T} {k r n : Int} (h : Grows t t1) (e : does t1 k r n = some t2) : Grows t t2 := by
  obtain ⟨hm, e⟩ := does_act e
  have hg := good_act h.good hm e
  obtain ⟨hs, hc | hc⟩ := act_rows h.good hm e
  · exact h.turn hg hs hc.1 hc.2
  · obtain ⟨X, h1, h2⟩ := h.ex
    refine ⟨hg, by rw [hs]; exact h.size, X ++ [t1.now], by rw [hc, h1, List.append_assoc], fun r l hr => ?_⟩
    cases hl : X ++ [t1.now] with
    | nil => simp at hl
    | cons c l2 =>
      rw [hl, List.cons_append] at hr
      injection hr with e1 _
      rw [← e1]
      exact h2 c l2 hl
theorem grows_all : ∀ (l : List (Int × Int × Int)) {t t1 t2 : T}, Grows t t1 → doAll t1 l = some t2 → Grows t t2
  | [], t, t1, t2, h, e => by cases e; exact h
  | o :: l, t, t1, t2, h, e => by
    rw [doAll_cons] at e
    cases hd : does t1 o.1 o.2.1 o.2.2 with
    | none => rw [hd] at e; cases e
    | some t3 =>
      rw [hd] at e
      exact grows_all l (grows_does h hd) e
theorem together {a b c : List (Int × Int × Int)} {size : Int} {L M : List Row} (e : rowsOf a b size = (L, 0)) (f : rowsOf a (b ++ c) size = (M, 0)) :
    0 < L.length ∧ L.length ≤ M.length ∧ L.length ≤ 100000 ∧ M.length ≤ 100000 ∧ (∀ i, i + 1 < L.length → L[i]? = M[i]?) ∧ ∀ x y, L[L.length - 1]? = some x → M[L.length - 1]? = some y → at0 x = at0 y := by
  have hL := (rows_rise e).few
  have hM := (rows_rise f).few
  have hp := (rows_rise e).pos
  obtain ⟨h0, h1, h2, h3, t1, t, hb, hd, rfl⟩ := rows_ok e
  obtain ⟨_, _, _, _, t1', t', hb', hd', rfl⟩ := rows_ok f
  rw [hb] at hb'
  cases hb'
  rw [doAll_append, hd] at hd'
  obtain ⟨hi, _, _, _, hs⟩ := begin_inv h0 h1 hb
  have hit := inv_all b hi hd
  have hsz := (len_all b hd).2.1
  have hg := grows_all c (t := t) ⟨hit.good, by omega, [], by simp, fun r l hr => by
    simp only [List.nil_append, List.cons.injEq] at hr
    rw [← hr.1]⟩ hd'
  obtain ⟨X, hX, hh⟩ := hg.ex
  refine ⟨hp, by rw [hX]; simp, hL, hM, fun i hi => ?_, fun x y hx hy => ?_⟩
  · have hi2 : i < t.rows.length := by simp at hi; omega
    rw [hX, List.getElem?_append_left hi2, List.append_assoc, List.getElem?_append_left hi2]
  · have hl : (t.rows ++ [t.now]).length - 1 = t.rows.length := by simp
    rw [hl] at hx hy
    rw [List.getElem?_append_right (Nat.le_refl _), Nat.sub_self] at hx
    simp only [List.getElem?_cons_zero, Option.some.injEq] at hx
    rw [hX, List.append_assoc, List.getElem?_append_right (Nat.le_refl _), Nat.sub_self] at hy
    cases hl : X ++ [t'.now] with
    | nil => simp at hl
    | cons r l =>
      rw [hl] at hy
      simp only [List.getElem?_cons_zero, Option.some.injEq] at hy
      rw [← hx, ← hy]
      exact (hh r l hl).symm
/-! What is kept. -/
theorem act_kept {t t' : T} {k r n : Int} (h9 : k ≠ 9) (h10 : k ≠ 10) (hm : mayF k r n = true) (e : act t k r n = some t') : t'.kept = t.kept := by
  have hk := may_k hm
  have hn : ∀ {p : Prop} [Decidable p] {x : T}, (if p then some x else none) = some t' → some x = some t' := by
    intro p _ x h
    rcases ite_cases h with ⟨_, h⟩ | ⟨_, h⟩
    · exact h
    · cases h
  have hc : ∀ {x : T}, some x = some t' → x.kept = t.kept → t'.kept = t.kept := fun hx hk => by cases hx; exact hk
  unfold act at e
  rcases ite_cases e with ⟨c0, e⟩ | ⟨c0, e⟩
  · exact hc e rfl
  rcases ite_cases e with ⟨c1, e⟩ | ⟨c1, e⟩
  · rcases ite_cases e with ⟨_, e⟩ | ⟨_, e⟩
    · exact hc e rfl
    · exact hc (hn e) rfl
  rcases ite_cases e with ⟨c2, e⟩ | ⟨c2, e⟩
  · exact hc e rfl
  rcases ite_cases e with ⟨c3, e⟩ | ⟨c3, e⟩
  · exact hc (hn e) rfl
  rcases ite_cases e with ⟨c4, e⟩ | ⟨c4, e⟩
  · exact hc (hn e) rfl
  rcases ite_cases e with ⟨c5, e⟩ | ⟨c5, e⟩
  · exact hc e rfl
  rcases ite_cases e with ⟨c6, e⟩ | ⟨c6, e⟩
  · exact hc e rfl
  rcases ite_cases e with ⟨c7, e⟩ | ⟨c7, e⟩
  · exact hc e rfl
  rcases ite_cases e with ⟨c8, e⟩ | ⟨c8, e⟩
  · exact hc e rfl
  omega
theorem all_kept : ∀ (l : List (Int × Int × Int)) {t t' : T}, (∀ o ∈ l, o.1 ≠ 9 ∧ o.1 ≠ 10) → doAll t l = some t' → t'.kept = t.kept
  | [], t, t', _, e => by cases e; rfl
  | o :: l, t, t', h, e => by
    rw [doAll_cons] at e
    cases hd : does t o.1 o.2.1 o.2.2 with
    | none => rw [hd] at e; cases e
    | some t2 =>
      rw [hd] at e
      obtain ⟨hm, ha⟩ := does_act hd
      have ho := h o List.mem_cons_self
      exact (all_kept l (fun q hq => h q (List.mem_cons_of_mem _ hq)) e).trans (act_kept ho.1 ho.2 hm ha)
theorem kept_law {a F : List (Int × Int × Int)} {size : Int} {L M : List Row} (hF : ∀ o ∈ F, o.1 ≠ 9 ∧ o.1 ≠ 10) (e : rowsOf a [] size = (L, 0)) (f : rowsOf a (((9, 0, 0) :: F) ++ [(10, 0, 0)]) size = (M, 0)) :
    ∃ x M', L = [x] ∧ M = M' ++ [x.set 0 (at0 ((M.getLastD [])))] ∧ x.length = 37 ∧ M.length ≤ 100000 := by
  have hM := (rows_rise f).few
  obtain ⟨h0, h1, h2, h3, t1, t, hb, hd, rfl⟩ := rows_ok e
  obtain ⟨_, _, _, _, t1', t', hb', hd', rfl⟩ := rows_ok f
  rw [hb] at hb'
  cases hb'
  cases hd
  obtain ⟨hi, hk, hr, hbg, hs⟩ := begin_inv h0 h1 hb
  rw [List.cons_append, doAll_cons] at hd'
  cases h9 : does t1 9 0 0 with
  | none => rw [h9] at hd'; cases hd'
  | some t2 =>
    rw [h9] at hd'
    simp only [Option.bind_some] at hd'
    rw [doAll_append] at hd'
    cases hdF : doAll t2 F with
    | none => rw [hdF] at hd'; cases hd'
    | some t3 =>
      rw [hdF] at hd'
      simp only [Option.bind_some] at hd'
      rw [doAll_cons] at hd'
      cases h10 : does t3 10 0 0 with
      | none => rw [h10] at hd'; cases hd'
      | some t4 =>
        rw [h10] at hd'
        simp only [Option.bind_some] at hd'
        cases hd'
        have hg3 := (inv_all F (inv_does hi h9) hdF).good
        have e9 := (does_act h9).2
        have e10 := (does_act h10).2
        have k2 : t2.kept = [t1.now] := by
          have e9' : (if t1.kept.length + 1 ≤ 64 then some { t1 with kept := t1.kept ++ [t1.now] } else none) = some t2 := e9
          rw [hk] at e9'
          simp only [List.length_nil, List.nil_append] at e9'
          rw [if_pos (by decide)] at e9'
          cases e9'
          rfl
        have k3 : t3.kept = [t1.now] := (all_kept F hF hdF).trans k2
        have e10' : (if t3.kept = [] then none else some { t3 with now := (t3.kept.getLastD []).set 0 (t3.now.getD 0 0), kept := t3.kept.dropLast }) = some t' := e10
        rw [k3, if_neg (by simp)] at e10'
        have hn : t'.now = t1.now.set 0 (t3.now.getD 0 0) := by cases e10'; rfl
        have h37 := hi.good.now
        refine ⟨t1.now, t'.rows, by rw [hr]; rfl, ?_, h37, hM⟩
        have hgl : (t'.rows ++ [t'.now]).getLastD [] = t'.now := by
          rw [List.getLastD_eq_getLast?, List.getLast?_append]
          rfl
        rw [hgl]
        have ha : at0 t'.now = t3.now.getD 0 0 := by rw [hn]; exact getD_set_eq (by omega) _
        rw [ha, hn]
end Go.Proofs.Ytngddlihppomhaa.Cfa
