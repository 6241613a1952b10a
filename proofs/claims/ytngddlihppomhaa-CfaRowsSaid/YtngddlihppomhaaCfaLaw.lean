/- What is true of the table of any program of frame rules: rows rise, registers are registers; what is kept comes back; more ops leave the first rows. -/
import Derived.Test.YtngddlihppomhaaCfa
namespace Go.Proofs.Ytngddlihppomhaa.Cfa
set_option linter.unusedVariables false
set_option linter.unusedSimpArgs false
open Go.RowKit Go.Proofs.Ytngddlihppomhaa.G Go.Proofs.YtngddlihppomhaaW.PrintWords Go.Proofs.YtngddlihppomhaaW.PrintLast Go.Proofs.YtngddlihppomhaaW.PrintMore

def at0 (r : Row) : Int := r.getD 0 0
def reg (r : Row) : Int := r.getD 1 0
def RegOk (r : Row) : Prop := 0 ≤ reg r ∧ reg r ≤ 16
/-- Of a table behind its beginning. -/
structure Inv (t : T) : Prop where
  good : Good t
  rise : (t.rows ++ [t.now]).Pairwise (fun a b => at0 a < at0 b)
  head : ∀ r l, t.rows ++ [t.now] = r :: l → at0 r = 0
  top : at0 t.now ≤ t.size
  regs : ∀ r ∈ t.rows, RegOk r
  now : RegOk t.now
  kregs : ∀ r ∈ t.kept, RegOk r
theorem rise_now {l : List Row} {a b : Row} (h : (l ++ [a]).Pairwise (fun a b => at0 a < at0 b)) (e : at0 b = at0 a) : (l ++ [b]).Pairwise (fun a b => at0 a < at0 b) := by
  rw [List.pairwise_append] at h ⊢
  refine ⟨h.1, List.pairwise_singleton _ _, fun x hx y hy => ?_⟩
  rw [List.mem_singleton.1 hy, e]
  exact h.2.2 x hx a (List.mem_singleton.2 rfl)
theorem head_now {l : List Row} {a b : Row} (h : ∀ r l', l ++ [a] = r :: l' → at0 r = 0) (e : at0 b = at0 a) : ∀ r l', l ++ [b] = r :: l' → at0 r = 0 := by
  intro r l' hr
  cases l with
  | nil =>
    simp only [List.nil_append, List.cons.injEq] at hr
    rw [← hr.1, e]
    exact h a [] rfl
  | cons c l =>
    simp only [List.cons_append, List.cons.injEq] at hr
    rw [← hr.1]
    exact h c (l ++ [a]) rfl
theorem Inv.turn {t t' : T} (h : Inv t) (g : Good t') (hr : t'.rows = t.rows) (hs : t'.size = t.size) (ha : at0 t'.now = at0 t.now) (hn : RegOk t'.now) (hk : ∀ r ∈ t'.kept, RegOk r) : Inv t' :=
  ⟨g, by rw [hr]; exact rise_now h.rise ha, by rw [hr]; exact head_now h.head ha, by rw [ha, hs]; exact h.top, by rw [hr]; exact h.regs, hn, hk⟩
theorem at_set {l : Row} {i : Nat} (h : i ≠ 0) (x : Int) : at0 (l.set i x) = at0 l := getD_set_ne h x
theorem reg_set {l : Row} {i : Nat} (h : i ≠ 1) (x : Int) : reg (l.set i x) = reg l := getD_set_ne h x
theorem ru_ne1 (r : Int) : ru r ≠ 1 ∧ ru r + 1 ≠ 1 := by unfold ru; omega
theorem inv_act {t t' : T} {k r n : Int} (h : Inv t) (hm : mayF k r n = true) (e : act t k r n = some t') : Inv t' := by
  have hg := good_act h.good hm e
  have hr := may_r hm
  have hn37 := h.good.now
  have h0 := ru_ne r
  have h1 := ru_ne1 r
  unfold act at e
  rcases ite_cases e with ⟨cc, e⟩ | ⟨cc, e⟩
  · cases e; exact h
  rcases ite_cases e with ⟨cc, e⟩ | ⟨_, e⟩
  · have hn := may_n hm cc
    rcases ite_cases e with ⟨c0, e⟩ | ⟨c0, e⟩
    · cases e; exact h
    rcases ite_cases e with ⟨cs, e⟩ | ⟨cs, e⟩
    · cases e
      have ha : at0 (t.now.set 0 (t.now.getD 0 0 + n)) = at0 t.now + n := getD_set_eq (by omega) _
      have hrg : reg (t.now.set 0 (t.now.getD 0 0 + n)) = reg t.now := reg_set (by decide) _
      refine ⟨hg, ?_, ?_, ?_, ?_, ?_, h.kregs⟩
      · show ((t.rows ++ [t.now]) ++ [_]).Pairwise _
        rw [List.pairwise_append]
        refine ⟨h.rise, List.pairwise_singleton _ _, fun x hx y hy => ?_⟩
        rw [List.mem_singleton.1 hy, ha]
        rcases List.mem_append.1 hx with hx | hx
        · have := (List.pairwise_append.1 h.rise).2.2 x hx t.now (List.mem_singleton.2 rfl)
          omega
        · rw [List.mem_singleton.1 hx]; omega
      · intro q l hq
        have hq2 : (t.rows ++ [t.now]) ++ [t.now.set 0 (t.now.getD 0 0 + n)] = q :: l := hq
        cases hl : t.rows ++ [t.now] with
        | nil => simp at hl
        | cons c l2 =>
          rw [hl, List.cons_append] at hq2
          injection hq2 with e1 _
          rw [← e1]
          exact h.head c l2 hl
      · rw [ha]; exact cs
      · intro q hq
        rcases List.mem_append.1 hq with hq | hq
        · exact h.regs q hq
        · rw [List.mem_singleton.1 hq]; exact h.now
      · unfold RegOk; rw [hrg]; exact h.now
    · cases e
  rcases ite_cases e with ⟨_, e⟩ | ⟨_, e⟩
  · cases e
    refine h.turn hg rfl rfl ((at_set (by decide) _).trans (at_set (by decide) _)) ?_ h.kregs
    have : reg ((t.now.set 1 r).set 2 n) = r := (reg_set (by decide) _).trans (getD_set_eq (by omega) _)
    unfold RegOk; rw [this]; exact hr
  rcases ite_cases e with ⟨_, e⟩ | ⟨_, e⟩
  · rcases ite_cases e with ⟨_, e⟩ | ⟨_, e⟩
    · cases e
      refine h.turn hg rfl rfl (at_set (by decide) _) ?_ h.kregs
      have : reg (t.now.set 2 n) = reg t.now := reg_set (by decide) _
      unfold RegOk; rw [this]; exact h.now
    · cases e
  rcases ite_cases e with ⟨_, e⟩ | ⟨_, e⟩
  · rcases ite_cases e with ⟨_, e⟩ | ⟨_, e⟩
    · cases e
      refine h.turn hg rfl rfl (at_set (by decide) _) ?_ h.kregs
      have : reg (t.now.set 1 r) = r := getD_set_eq (by omega) _
      unfold RegOk; rw [this]; exact hr
    · cases e
  have two : ∀ x y : Int, Good { t with now := (t.now.set (ru r) x).set (ru r + 1) y } → Inv { t with now := (t.now.set (ru r) x).set (ru r + 1) y } := fun x y hg => by
    refine h.turn hg rfl rfl ((at_set h0.2 _).trans (at_set h0.1 _)) ?_ h.kregs
    have : reg ((t.now.set (ru r) x).set (ru r + 1) y) = reg t.now := (reg_set h1.2 _).trans (reg_set h1.1 _)
    unfold RegOk; rw [this]; exact h.now
  rcases ite_cases e with ⟨_, e⟩ | ⟨_, e⟩
  · cases e; exact two _ _ hg
  rcases ite_cases e with ⟨_, e⟩ | ⟨_, e⟩
  · cases e; exact two _ _ hg
  rcases ite_cases e with ⟨_, e⟩ | ⟨_, e⟩
  · cases e; exact two _ _ hg
  rcases ite_cases e with ⟨_, e⟩ | ⟨_, e⟩
  · cases e; exact two _ _ hg
  rcases ite_cases e with ⟨_, e⟩ | ⟨_, e⟩
  · rcases ite_cases e with ⟨_, e⟩ | ⟨_, e⟩
    · cases e
      refine h.turn hg rfl rfl rfl h.now (fun q hq => ?_)
      rcases List.mem_append.1 hq with hq | hq
      · exact h.kregs q hq
      · rw [List.mem_singleton.1 hq]; exact h.now
    · cases e
  rcases ite_cases e with ⟨_, e⟩ | ⟨cc, e⟩
  · cases e
  · cases e
    have hl := h.good.kept _ (getLastD_mem cc)
    refine h.turn hg rfl rfl (getD_set_eq (by omega) _) ?_ (fun q hq => h.kregs q (List.dropLast_subset _ hq))
    have : reg ((t.kept.getLastD []).set 0 (t.now.getD 0 0)) = reg (t.kept.getLastD []) := reg_set (by decide) _
    unfold RegOk; rw [this]; exact h.kregs _ (getLastD_mem cc)
theorem inv_does {t t' : T} {k r n : Int} (h : Inv t) (e : does t k r n = some t') : Inv t' := by
  unfold does at e
  rcases ite_cases e with ⟨ca, e⟩ | ⟨ca, e⟩
  · cases e
  rcases ite_cases e with ⟨cc, e⟩ | ⟨cc, e⟩
  · cases e
  exact inv_act h (by simpa using ca) e
theorem doAll_cons {t : T} (o : Int × Int × Int) (l : List (Int × Int × Int)) : doAll t (o :: l) = (does t o.1 o.2.1 o.2.2).bind fun t' => doAll t' l := rfl
theorem inv_all : ∀ (l : List (Int × Int × Int)) {t t' : T}, Inv t → doAll t l = some t' → Inv t'
  | [], t, t', h, e => by cases e; exact h
  | o :: l, t, t', h, e => by
    rw [doAll_cons] at e
    cases hd : does t o.1 o.2.1 o.2.2 with
    | none => rw [hd] at e; cases e
    | some t2 =>
      rw [hd] at e
      exact inv_all l (inv_does h hd) e
/-- Of a table within its beginning. -/
structure Pre (t : T) (size : Int) : Prop where
  good : Good t
  rows : t.rows = []
  kept : t.kept = []
  at_ : at0 t.now = 0
  reg1 : reg t.now ≤ 16
  size : t.size = size
  begun : t.begun = false
theorem pre_fresh (size : Int) (h : size ≤ 1048576) : Pre (fresh size) size := ⟨good_fresh size h, rfl, rfl, rfl, by show (-1 : Int) ≤ 16; decide, rfl, rfl⟩
theorem pre_does {t t' : T} {size k r n : Int} (h : Pre t size) (e : does t k r n = some t') : Pre t' size := by
  unfold does at e
  rcases ite_cases e with ⟨ca, e⟩ | ⟨ca, e⟩
  · cases e
  rcases ite_cases e with ⟨cc, e⟩ | ⟨cc, e⟩
  · cases e
  have hm : mayF k r n = true := by simpa using ca
  have hk : ¬ (k = 1 ∨ k = 9 ∨ k = 10 ∨ k = 6) := fun hk => cc ⟨h.begun, hk⟩
  have hg := good_act h.good hm e
  have hr := may_r hm
  have hkk := may_k hm
  have hn37 := h.good.now
  have h0 := ru_ne r
  have h1 := ru_ne1 r
  unfold act at e
  rcases ite_cases e with ⟨cc, e⟩ | ⟨cc0, e⟩
  · cases e; exact h
  rcases ite_cases e with ⟨cc, e⟩ | ⟨cc1, e⟩
  · exact absurd (.inl cc) hk
  rcases ite_cases e with ⟨_, e⟩ | ⟨cc2, e⟩
  · cases e
    refine ⟨hg, h.rows, h.kept, ((at_set (by decide) _).trans (at_set (by decide) _)).trans h.at_, ?_, h.size, h.begun⟩
    have : reg ((t.now.set 1 r).set 2 n) = r := (reg_set (by decide) _).trans (getD_set_eq (by omega) _)
    show reg ((t.now.set 1 r).set 2 n) ≤ 16
    rw [this]; exact hr.2
  rcases ite_cases e with ⟨_, e⟩ | ⟨cc3, e⟩
  · rcases ite_cases e with ⟨_, e⟩ | ⟨_, e⟩
    · cases e
      refine ⟨hg, h.rows, h.kept, (at_set (by decide) _).trans h.at_, ?_, h.size, h.begun⟩
      have : reg (t.now.set 2 n) = reg t.now := reg_set (by decide) _
      show reg (t.now.set 2 n) ≤ 16
      rw [this]; exact h.reg1
    · cases e
  rcases ite_cases e with ⟨_, e⟩ | ⟨cc4, e⟩
  · rcases ite_cases e with ⟨_, e⟩ | ⟨_, e⟩
    · cases e
      refine ⟨hg, h.rows, h.kept, (at_set (by decide) _).trans h.at_, ?_, h.size, h.begun⟩
      have : reg (t.now.set 1 r) = r := getD_set_eq (by omega) _
      show reg (t.now.set 1 r) ≤ 16
      rw [this]; exact hr.2
    · cases e
  have two : ∀ x y : Int, Good { t with now := (t.now.set (ru r) x).set (ru r + 1) y } → Pre { t with now := (t.now.set (ru r) x).set (ru r + 1) y } size := fun x y hg => by
    refine ⟨hg, h.rows, h.kept, ((at_set h0.2 _).trans (at_set h0.1 _)).trans h.at_, ?_, h.size, h.begun⟩
    have : reg ((t.now.set (ru r) x).set (ru r + 1) y) = reg t.now := (reg_set h1.2 _).trans (reg_set h1.1 _)
    show reg ((t.now.set (ru r) x).set (ru r + 1) y) ≤ 16
    rw [this]; exact h.reg1
  rcases ite_cases e with ⟨_, e⟩ | ⟨cc5, e⟩
  · cases e; exact two _ _ hg
  rcases ite_cases e with ⟨cc, e⟩ | ⟨cc6, e⟩
  · exact absurd (.inr (.inr (.inr cc))) hk
  rcases ite_cases e with ⟨_, e⟩ | ⟨cc7, e⟩
  · cases e; exact two _ _ hg
  rcases ite_cases e with ⟨_, e⟩ | ⟨cc8, e⟩
  · cases e; exact two _ _ hg
  rcases ite_cases e with ⟨cc, e⟩ | ⟨cc9, e⟩
  · exact absurd (.inr (.inl cc)) hk
  · exact absurd (.inr (.inr (.inl (show k = 10 by omega)))) hk
theorem pre_all : ∀ (l : List (Int × Int × Int)) {t t' : T} {size : Int}, Pre t size → doAll t l = some t' → Pre t' size
  | [], t, t', _, h, e => by cases e; exact h
  | o :: l, t, t', _, h, e => by
    rw [doAll_cons] at e
    cases hd : does t o.1 o.2.1 o.2.2 with
    | none => rw [hd] at e; cases e
    | some t2 =>
      rw [hd] at e
      exact pre_all l (pre_does h hd) e
theorem begin_inv {t : T} {size : Int} {l : List (Int × Int × Int)} (h0 : 0 ≤ size) (h1 : size ≤ 1048576) (e : begin_ (fresh size) l = some t) : Inv t ∧ t.kept = [] ∧ t.rows = [] ∧ t.begun = true ∧ t.size = size := by
  unfold begin_ at e
  cases hd : doAll (fresh size) l with
  | none => rw [hd] at e; cases e
  | some t2 =>
    rw [hd] at e
    have hp := pre_all l (pre_fresh size h1) hd
    rcases ite_cases e with ⟨c, e⟩ | ⟨_, e⟩
    · cases e
      refine ⟨⟨⟨hp.good.now, hp.good.now, hp.good.rows, hp.good.kept, hp.good.at0, hp.good.size, hp.good.atS⟩, ?_, ?_, ?_, ?_, ⟨c, hp.reg1⟩, ?_⟩, hp.kept, hp.rows, rfl, hp.size⟩
      · show (t2.rows ++ [t2.now]).Pairwise _
        rw [hp.rows]
        exact List.pairwise_singleton _ _
      · intro q l hq
        have hq2 : t2.rows ++ [t2.now] = q :: l := hq
        rw [hp.rows, List.nil_append] at hq2
        injection hq2 with e1 _
        rw [← e1]; exact hp.at_
      · show at0 t2.now ≤ t2.size
        rw [hp.at_, hp.size]; exact h0
      · show ∀ r ∈ t2.rows, _
        rw [hp.rows]; simp
      · show ∀ r ∈ t2.kept, _
        rw [hp.kept]; simp
    · cases e
/-- What Rows answers when it answers OK. -/
structure Rise (L : List Row) (size : Int) : Prop where
  pos : 0 < L.length
  rise : L.Pairwise (fun a b => at0 a < at0 b)
  head : ∀ r l, L = r :: l → at0 r = 0
  top : ∀ r ∈ L, at0 r ≤ size
  regs : ∀ r ∈ L, RegOk r
  few : L.length ≤ 100000
theorem len_all : ∀ (l : List (Int × Int × Int)) {t t' : T}, doAll t l = some t' → t'.rows.length ≤ t.rows.length + l.length ∧ t'.size = t.size ∧ t'.begun = t.begun
  | [], t, t', e => by cases e; exact ⟨Nat.le_refl _, rfl, rfl⟩
  | o :: l, t, t', e => by
    rw [doAll_cons] at e
    cases hd : does t o.1 o.2.1 o.2.2 with
    | none => rw [hd] at e; cases e
    | some t2 =>
      rw [hd] at e
      have h1 := does_size hd
      have h2 := len_all l e
      rw [List.length_cons]
      exact ⟨by omega, h2.2.1.trans h1.1, h2.2.2.trans h1.2.1⟩
theorem inv_rise {t : T} {size : Int} (h : Inv t) (hs : t.size = size) (hl : t.rows.length ≤ 90000) : Rise (t.rows ++ [t.now]) size := by
  refine ⟨by simp, h.rise, h.head, fun r hr => ?_, fun r hr => ?_, by simp; omega⟩
  · rcases List.mem_append.1 hr with hr | hr
    · have := (List.pairwise_append.1 h.rise).2.2 r hr t.now (List.mem_singleton.2 rfl)
      have := h.top
      omega
    · rw [List.mem_singleton.1 hr, ← hs]; exact h.top
  · rcases List.mem_append.1 hr with hr | hr
    · exact h.regs r hr
    · rw [List.mem_singleton.1 hr]; exact h.now
theorem rows_ok {a b : List (Int × Int × Int)} {size : Int} {L : List Row} (e : rowsOf a b size = (L, 0)) : 0 ≤ size ∧ size ≤ 1048576 ∧ a.length ≤ 4000 ∧ b.length ≤ 4000 ∧ ∃ t1 t, begin_ (fresh size) a = some t1 ∧ doAll t1 b = some t ∧ L = t.rows ++ [t.now] := by
  unfold rowsOf at e
  rcases ite_cases e with ⟨_, e⟩ | ⟨c1, e⟩
  · cases e
  rcases ite_cases e with ⟨_, e⟩ | ⟨c2, e⟩
  · cases e
  unfold run at e
  refine ⟨by omega, by omega, by omega, by omega, ?_⟩
  cases hb : begin_ (fresh size) a with
  | none => rw [hb] at e; cases e
  | some t1 =>
    rw [hb] at e
    simp only [Option.bind_some] at e
    cases hd : doAll t1 b with
    | none => rw [hd] at e; cases e
    | some t =>
      rw [hd] at e
      cases e
      exact ⟨t1, t, rfl, hd, rfl⟩
theorem rows_bad {a b : List (Int × Int × Int)} {size : Int} (e : (rowsOf a b size).2 ≠ 0) : (rowsOf a b size).1 = [] := by
  unfold rowsOf at e ⊢
  by_cases c1 : size < 0 ∨ 1048576 < size
  · rw [if_pos c1]
  rw [if_neg c1] at e ⊢
  by_cases c2 : 4000 < a.length ∨ 4000 < b.length
  · rw [if_pos c2]
  rw [if_neg c2] at e ⊢
  cases h : run a b size with
  | none => rfl
  | some t => rw [h] at e; exact absurd rfl e
theorem rows_rise {a b : List (Int × Int × Int)} {size : Int} {L : List Row} (e : rowsOf a b size = (L, 0)) : Rise L size := by
  obtain ⟨h0, h1, h2, h3, t1, t, hb, hd, rfl⟩ := rows_ok e
  obtain ⟨hi, hk, hr, hbg, hs⟩ := begin_inv h0 h1 hb
  have hl := len_all b hd
  rw [hr] at hl
  simp only [List.length_nil] at hl
  exact inv_rise (inv_all b hi hd) (hl.2.1.trans hs) (by omega)
/-! Find. -/
theorem find_neg {at_ : Int} (h : at_ < 0) (L : List Row) (st : Option Row) : findIn at_ L st = st := by
  cases L with
  | nil => rfl
  | cons r l =>
    unfold findIn
    rw [if_pos (.inl h)]
theorem find_from {at_ : Int} (h0 : 0 ≤ at_) : ∀ (L : List Row) (r : Row), (r :: L).Pairwise (fun a b => at0 a < at0 b) → at0 r ≤ at_ → ∃ q, findIn at_ L (some r) = some q ∧ q ∈ r :: L ∧ at0 q ≤ at_ ∧ ∀ x ∈ r :: L, at0 x ≤ at_ → at0 x ≤ at0 q
  | [], r, _, hr => ⟨r, rfl, by simp, hr, fun x hx _ => by rw [List.mem_singleton.1 hx]; exact Int.le_refl _⟩
  | c :: L, r, hp, hr => by
    unfold findIn
    have hp2 := List.pairwise_cons.1 hp
    by_cases cc : at_ < 0 ∨ at_ < c.getD 0 0
    · rw [if_pos cc]
      refine ⟨r, rfl, by simp, hr, fun x hx hxa => ?_⟩
      rcases List.mem_cons.1 hx with rfl | hx
      · exact Int.le_refl _
      · have hc : at_ < at0 c := by
          rcases cc with cc | cc
          · omega
          · exact cc
        rcases List.mem_cons.1 hx with rfl | hx
        · omega
        · have := (List.pairwise_cons.1 hp2.2).1 x hx
          omega
    · rw [if_neg cc]
      have hc : at0 c ≤ at_ := by
        have : ¬ at_ < at0 c := fun h => cc (.inr h)
        omega
      obtain ⟨q, h1, h2, h3, h4⟩ := find_from h0 L c hp2.2 hc
      refine ⟨q, h1, List.mem_cons_of_mem _ h2, h3, fun x hx hxa => ?_⟩
      rcases List.mem_cons.1 hx with rfl | hx
      · have := hp2.1 c List.mem_cons_self
        have := h4 c List.mem_cons_self hc
        omega
      · exact h4 x hx hxa
theorem find_rise {L : List Row} {size at_ : Int} (h : Rise L size) (h0 : 0 ≤ at_) : ∃ q, findIn at_ L none = some q ∧ q ∈ L ∧ at0 q ≤ at_ ∧ ∀ x ∈ L, at0 x ≤ at_ → at0 x ≤ at0 q := by
  cases hL : L with
  | nil => have := h.pos; rw [hL] at this; simp at this
  | cons r l =>
    have hr := h.head r l hL
    unfold findIn
    rw [if_neg (by
      intro c
      rcases c with c | c
      · omega
      · have : at_ < at0 r := c
        omega)]
    have hp := h.rise
    rw [hL] at hp
    exact find_from h0 l r hp (by omega)
end Go.Proofs.Ytngddlihppomhaa.Cfa
