/- cfa.Rows: what it answers, for any two programs and any size. -/
import Derived.Test.YtngddlihppomhaaCfaRun
namespace Go.Proofs.Ytngddlihppomhaa.Cfa
set_option linter.unusedVariables false
set_option linter.unusedSimpArgs false
open Go.RowKit Go.Proofs.Ytngddlihppomhaa.G Go.Proofs.YtngddlihppomhaaW.PrintWords Go.Proofs.YtngddlihppomhaaW.PrintLast Go.Proofs.YtngddlihppomhaaW.PrintMore
attribute [local go_sem] max2_int min2_int max_two min_two max_three min_three max_four min_four
/-- Rows by value hand-back: what Rows answers. -/
def RowsPost (w : World) (r : List Row × Int) (e : Ending) (w' : World) : Prop :=
  ∃ v, e = .returned (.tuple #[v, .int .i64 r.2]) ∧ Kd.R rowK 35 w' w.heap.size (fun _ => True) v r.1 ∧ Below w.heap.size w w'
theorem bounds_f (size m : Int) : cfa_bounds.f 1 size m = some (if size < 0 ∨ 1048576 < size then 11 else if 4000 < m then 6 else 0) := by
  unfold cfa_bounds.f
  by_cases c : size < 0
  · rw [if_pos c, if_pos (.inl c)]
    simp only [cfa_bounds.j0, if_true]
  · rw [if_neg c]
    by_cases c2 : 1048576 < size
    · rw [if_pos (.inr c2), decide_eq_true (show size > 1048576 from c2)]
      simp only [cfa_bounds.j0, if_true]
    · rw [if_neg (by omega), decide_eq_false (show ¬ size > 1048576 from c2)]
      simp only [cfa_bounds.j0]
      rw [if_neg (by decide)]
      by_cases c3 : 4000 < m
      · rw [if_pos c3, if_pos c3]
      · rw [if_neg c3, if_neg c3]
theorem drawn_heap {w w' : World} (h : Drawn0 w w') : w'.heap = w.heap := by
  obtain ⟨n, rfl⟩ := h.out
  rfl
set_option maxRecDepth 100000 in
theorem rows_refused (A0 : Option Addr) (c0 : Nat) (l0 : List S40) (A1 : Option Addr) (c1 : Nat) (l1 : List S40) (size : Int) (w : World) (m : Int) (hmx : (if l0.length < l1.length then (l1.length : Int) else (l0.length : Int)) = m) (er : Int) (her : (if size < 0 ∨ 1048576 < size then (11 : Int) else if 4000 < m then 6 else 0) = er) (hne : er ≠ 0) :
    Calls Try.prog 10 #[.slice A0 l0.length c0, .slice A1 l1.length c1, .int .i64 size] w (RowsPost w ([], er)) := by
  have hb := bounds_f size m
  rw [her] at hb
  have HBD := Aside0.mk hb
  obtain ⟨d1, d2⟩ := may_ne hne
  clear hb her hne
  go_enter Try.func10, Try.ntmps10
  go_wp2
  go_step3
  go_wp2_with fail
  refine (cfa_bounds.calls 1 size m er _ HBD.out).mono ?_
  rintro e w1 ⟨rfl, hb1⟩
  go_wp2
  try rw [Exit.noGoto_ret]
  go_ret2
  exact ⟨_, rfl, Kd.R_nil _ _ _ _ _, hb1.below⟩
set_option maxRecDepth 100000 in
theorem rows_nobegin (A0 : Option Addr) (c0 : Nat) (l0 : List S40) (A1 : Option Addr) (c1 : Nat) (l1 : List S40) (size : Int) (w : World) (hr0 : Kd.C k40 w A0 l0.length l0) (hr1 : Kd.C k40 w A1 l1.length l1) (m : Int) (hmx : (if l0.length < l1.length then (l1.length : Int) else (l0.length : Int)) = m) (hs0 : 0 ≤ size) (hs1 : size ≤ 1048576) (hm : m ≤ 4000) (hl0 : l0.length ≤ 4000) (hl1 : l1.length ≤ 4000) (hbg : begin_ (fresh size) (opl l0) = none) :
    Calls Try.prog 10 #[.slice A0 l0.length c0, .slice A1 l1.length c1, .int .i64 size] w (RowsPost w ([], 130)) := by
  have hb := bounds_f size m
  rw [if_neg (by omega), if_neg (by omega)] at hb
  have HBD := Aside0.mk hb
  have HR0 := Aside0.mk hr0
  have HR1 := Aside0.mk hr1
  have HBG := Aside0.mk hbg
  have HS0 := Aside0.mk hs0
  have HS1 := Aside0.mk hs1
  clear hb hr0 hr1 hbg hs0 hs1 hm
  go_enter Try.func10, Try.ntmps10
  go_wp2
  go_step3
  go_wp2_with fail
  refine (cfa_bounds.calls 1 size m 0 _ HBD.out).mono ?_
  rintro e w1 ⟨rfl, hb1⟩
  have HB1 := Aside0.mk hb1.below
  clear hb1
  go_wp2_with fail
  refine (fresh_calls size HS1.out _).mono ?_
  rintro e w2 ⟨rfl, hb2, hT⟩
  have HB2 := Aside0.mk (below_step HB1.out hb2)
  have HT := Aside0.mk hT
  have hle : w.heap.size ≤ w1.heap.size := HB1.out.size
  have HLE := Aside0.mk hle
  have HBB := Aside0.mk hb2
  clear hb2 hT hle
  generalize w1.heap.size = g at *
  go_wp2_with fail
  refine (begin_calls _ w.heap.size g (fresh size) _ _ ⟨HT.out.good, HLE.out, HT.out.blk, Kd.R_nil _ _ _ _ _, Kd.R_nil _ _ _ _ _⟩ HB2.out.size A0 c0 l0 (fun W hW => Kd.C_below HR0.out (HB2.out.trans hW)) (by omega) ⟨by show 0 ≤ _; omega, by show 0 ≤ _; omega, HS0.out⟩).mono ?_
  rw [HBG.out]
  rintro e w3 ⟨rfl, hb3, -⟩
  have HB3 := Aside0.mk (HB2.out.trans hb3)
  clear hb3
  simp only [Option.isSome_none]
  go_wp2
  go_step3
  go_wp2
  go_loopg [10, 30] l1.length (fun kq v10 i w' => v10 = .bool false ∧ i = .int .i64 0 ∧ kq = l1.length ∧ Aside0 (Below w.heap.size w w'))
  case atStart => exact ⟨rfl, rfl, rfl, HB3⟩
  case round =>
    clear HB3
    obtain ⟨rfl, rfl, hk, HB3⟩ := hrel
    rcases Nat.eq_zero_or_pos l1.length with h0 | h0
    · have hltb : decide ((0 : Int) < (l1.length : Int)) = false := decide_eq_false (by omega)
      go_wp2
      rw [Exit.noGoto_ret]
      go_ret2
      exact ⟨_, rfl, Kd.R_nil _ _ _ _ _, HB3.out⟩
    · have hltb : decide ((0 : Int) < (l1.length : Int)) = true := decide_eq_true (by omega)
      obtain ⟨ad, rfl, hx0, hx1, hx2⟩ := at_T40 (Kd.C_below HR1.out HB3.out) (0 : Int) (by omega) (by omega)
      simp only [Int.toNat_zero, Nat.zero_mul] at hx0 hx1 hx2
      have hz : ad.add 0 = ad := by simp [Addr.add]
      rw [hz] at hx0 hx1 hx2
      generalize rd_T40 l1 (0 : Int) = x at *
      go_wp2
      rw [Exit.noGoto_ret]
      go_ret2
      exact ⟨_, rfl, Kd.R_nil _ _ _ _ _, below_alloc HB3.out _⟩
theorem doAll_far {t t' : T} : ∀ (l : List (Int × Int × Int)) (n : Nat) (t0 : T), Far t0 t n → doAll t l = some t' → Far t0 t' (n + l.length)
  | [], n, t0, h, e => by cases e; exact h
  | o :: l, n, t0, h, e => by
    unfold doAll at e
    cases hd : does t o.1 o.2.1 o.2.2 with
    | none => rw [hd] at e; cases e
    | some t2 =>
      rw [hd] at e
      have := doAll_far l (n + 1) t0 (h.step hd) e
      rw [List.length_cons, show n + (l.length + 1) = n + 1 + l.length from by omega]
      exact this
theorem begin_far {t t' : T} {l : List (Int × Int × Int)} (e : begin_ t l = some t') : t'.rows.length ≤ t.rows.length + l.length ∧ t'.kept.length ≤ t.kept.length + l.length ∧ t'.size = t.size := by
  unfold begin_ at e
  cases hd : doAll t l with
  | none => rw [hd] at e; cases e
  | some t2 =>
    rw [hd] at e
    have := doAll_far l 0 t (Far.zero t) hd
    rcases ite_cases e with ⟨_, e⟩ | ⟨_, e⟩
    · cases e
      exact ⟨by show t2.rows.length ≤ _; have := this.rows; omega, by show t2.kept.length ≤ _; have := this.kept; omega, this.size⟩
    · cases e
set_option maxHeartbeats 1000000 in
set_option maxRecDepth 100000 in
theorem rows_main (A0 : Option Addr) (c0 : Nat) (l0 : List S40) (A1 : Option Addr) (c1 : Nat) (l1 : List S40) (size : Int) (w : World) (hr0 : Kd.C k40 w A0 l0.length l0) (hr1 : Kd.C k40 w A1 l1.length l1) (m : Int) (hmx : (if l0.length < l1.length then (l1.length : Int) else (l0.length : Int)) = m) (hs0 : 0 ≤ size) (hs1 : size ≤ 1048576) (hm : m ≤ 4000) (hl0 : l0.length ≤ 4000) (hl1 : l1.length ≤ 4000) (t1 : T) (hbg : begin_ (fresh size) (opl l0) = some t1) :
    Calls Try.prog 10 #[.slice A0 l0.length c0, .slice A1 l1.length c1, .int .i64 size] w (RowsPost w (match doAll t1 (opl l1) with | none => ([], 130) | some t => (t.rows ++ [t.now], 0))) := by
  have hb := bounds_f size m
  rw [if_neg (by omega), if_neg (by omega)] at hb
  have HBD := Aside0.mk hb
  have HR0 := Aside0.mk hr0
  have HR1 := Aside0.mk hr1
  have hbf := begin_far hbg
  rw [opl_length] at hbf
  have HBF := Aside0.mk (show t1.rows.length ≤ 4000 ∧ t1.kept.length ≤ 4000 ∧ 0 ≤ t1.size from ⟨by have : (fresh size).rows.length = 0 := rfl; omega, by have : (fresh size).kept.length = 0 := rfl; omega, by have : (fresh size).size = size := rfl; omega⟩)
  have HBG := Aside0.mk hbg
  have HS0 := Aside0.mk hs0
  have HS1 := Aside0.mk hs1
  obtain ⟨R, hR⟩ : ∃ R, (match doAll t1 (opl l1) with | none => (([] : List Row), (130 : Int)) | some t => (t.rows ++ [t.now], 0)) = R := ⟨_, rfl⟩
  rw [hR]
  have HR := Aside0.mk hR
  clear hb hr0 hr1 hbg hs0 hs1 hm hR hbf
  go_enter Try.func10, Try.ntmps10
  go_wp2
  go_step3
  go_wp2_with fail
  refine (cfa_bounds.calls 1 size m 0 _ HBD.out).mono ?_
  rintro e w1 ⟨rfl, hb1⟩
  have HB1 := Aside0.mk hb1.below
  clear hb1
  go_wp2_with fail
  refine (fresh_calls size HS1.out _).mono ?_
  rintro e w2 ⟨rfl, hb2, hT⟩
  have HB2 := Aside0.mk (below_step HB1.out hb2)
  have HT := Aside0.mk hT
  have hle : w.heap.size ≤ w1.heap.size := HB1.out.size
  have HLE := Aside0.mk hle
  clear hb2 hT hle
  generalize w1.heap.size = g at *
  go_wp2_with fail
  refine (begin_calls _ w.heap.size g (fresh size) _ _ ⟨HT.out.good, HLE.out, HT.out.blk, Kd.R_nil _ _ _ _ _, Kd.R_nil _ _ _ _ _⟩ HB2.out.size A0 c0 l0 (fun W hW => Kd.C_below HR0.out (HB2.out.trans hW)) (by omega) ⟨by show 0 ≤ _; omega, by show 0 ≤ _; omega, HS0.out⟩).mono ?_
  rw [HBG.out]
  rintro e w3 ⟨rfl, hb3, hp⟩
  obtain ⟨rv, kv, hT3⟩ := hp t1 rfl
  have HT3 := Aside0.mk hT3
  have HB3 := Aside0.mk (HB2.out.trans hb3)
  clear hb3 hp hT3 HT HB2 HB1
  simp only [Option.isSome_some]
  go_wp2
  go_step3
  go_wp2
  go_loopg [10, 30] l1.length (fun kq v10 i w' => v10 = .bool true ∧ ∃ (n : Nat) (t' : T) (rv kv : Value), n + kq = l1.length ∧ i = .int .i64 (n : Int) ∧ Aside0 (doAll t1 (opl l1) = doAll t' ((opl l1).drop n)) ∧ Aside0 (Tab w' w.heap.size g t' rv kv) ∧ Aside0 (Below w.heap.size w w') ∧ Aside0 (Far t1 t' n))
  case atStart => exact ⟨rfl, 0, t1, rv, kv, by omega, rfl, ⟨rfl⟩, HT3, HB3, ⟨Far.zero t1⟩⟩
  case round =>
    clear HB3 HT3
    obtain ⟨rfl, n, t', rv', kv', hn, rfl, HD, HT, HB, HF⟩ := hrel
    cases gk with
    | zero =>
      have hltb : decide ((n : Int) < (l1.length : Int)) = false := decide_eq_false (by omega)
      have hd := HD.out
      rw [List.drop_of_length_le (by rw [opl_length]; omega)] at hd
      have hres := HR.out
      rw [hd] at hres
      have hres2 : (t'.rows ++ [t'.now], (0 : Int)) = R := hres
      subst hres2
      have f1 := HT.out.rowsC
      have HN := Aside0.mk HT.out.nowR
      clear hd hres HR HD
      go_wp2
      refine start_ (n := 12) (S := fun u => u.cell? ⟨g, 0, none⟩ = some rv' ∧ Aside0 (u.rangeAt g 1 (nums .i64 t'.now))) (ds := [9]) #[false, false, false, false, false, false, false, false, false, false, false, false] (by kernel_rfl) rfl rfl ?_ (fun hHeld => ?_)
      case refine_1 => exact ⟨by go_simp, ⟨(World.rangeAt_drew _ _ _ _).2 HN.out⟩⟩
      refine pure_ (i := 0) (N := some 45) (v := ?_) (a' := ?_) #[true, false, false, false, false, false, false, false, false, false, false, false] rfl rfl (by kernel_rfl) (fun _ _ _ h => h) (Or.inl ⟨by rfl, ?_⟩) ?_ ?_
      rotate_left
      · intro u
        go_simp
        with_reducible rfl
      rotate_left
      · simp only [Act.put, List.setIfInBounds_toArray, List.set_cons_zero, List.set_cons_succ, i64_w, i32_w]
        rfl
      refine pure_ (i := 1) (N := some 46) (v := ?_) (a' := ?_) #[true, true, false, false, false, false, false, false, false, false, false, false] rfl rfl (by kernel_rfl) (fun _ _ _ h => h) (Or.inl ⟨by rfl, ?_⟩) ?_ ?_
      rotate_left
      · intro u
        go_simp
        with_reducible rfl
      rotate_left
      · simp only [Act.put, List.setIfInBounds_toArray, List.set_cons_zero, List.set_cons_succ, i64_w, i32_w]
        rfl
      refine pure_ (i := 2) (N := some 47) (v := ?_) (a' := ?_) #[true, true, true, false, false, false, false, false, false, false, false, false] rfl rfl (by kernel_rfl) (fun _ _ _ h => h) (Or.inl ⟨by rfl, ?_⟩) ?_ ?_
      rotate_left
      · intro u
        go_simp
        with_reducible rfl
      rotate_left
      · simp only [Act.put, List.setIfInBounds_toArray, List.set_cons_zero, List.set_cons_succ, i64_w, i32_w]
        rfl
      refine take_ (i := 3) (N := some 48) (v := ?_) (a' := ?_) #[true, true, true, true, false, false, false, false, false, false, false, false] rfl rfl (by kernel_rfl) (fun _ _ _ h => h) (Or.inl ⟨by rfl, ?_⟩) hHeld ?_ ?_
      rotate_left
      · rintro u ⟨s0, s1⟩
        go_simp
        with_reducible rfl
      rotate_left
      · simp only [Act.put, List.setIfInBounds_toArray, List.set_cons_zero, List.set_cons_succ, i64_w, i32_w]
        rfl
      refine pure_ (i := 4) (N := some 49) (v := ?_) (a' := ?_) #[true, true, true, true, true, false, false, false, false, false, false, false] rfl rfl (by kernel_rfl) (fun _ _ _ h => h) (Or.inl ⟨by rfl, ?_⟩) ?_ ?_
      rotate_left
      · intro u
        go_simp
        with_reducible rfl
      rotate_left
      · simp only [Act.put, List.setIfInBounds_toArray, List.set_cons_zero, List.set_cons_succ, i64_w, i32_w]
        rfl
      refine pure_ (i := 5) (N := some 50) (v := ?_) (a' := ?_) #[true, true, true, true, true, true, false, false, false, false, false, false] rfl rfl (by kernel_rfl) (fun _ _ _ h => h) (Or.inl ⟨by rfl, ?_⟩) ?_ ?_
      rotate_left
      · intro u
        go_simp
        with_reducible rfl
      rotate_left
      · simp only [Act.put, List.setIfInBounds_toArray, List.set_cons_zero, List.set_cons_succ, i64_w, i32_w]
        rfl
      refine pure_ (i := 6) (N := some 51) (v := ?_) (a' := ?_) #[true, true, true, true, true, true, true, false, false, false, false, false] rfl rfl (by kernel_rfl) (fun _ _ _ h => h) (Or.inl ⟨by rfl, ?_⟩) ?_ ?_
      rotate_left
      · intro u
        go_simp
        with_reducible rfl
      rotate_left
      · simp only [Act.put, List.setIfInBounds_toArray, List.set_cons_zero, List.set_cons_succ, i64_w, i32_w]
        rfl
      refine take_ (i := 7) (N := some 52) (v := .agg (nums .i64 t'.now).toArray) (a' := ?_) #[true, true, true, true, true, true, true, true, false, false, false, false] rfl rfl (by kernel_rfl) (fun _ _ _ h => h) (load_row_y (by rfl) (.tmp 51) rfl g 1 rfl t'.now HT.out.good.now (fun u hu => hu.2.out)) hHeld ?_ ?_
      rotate_left
      · simp only [Act.put, List.setIfInBounds_toArray, List.set_cons_zero, List.set_cons_succ, i64_w, i32_w]
        rfl
      refine one_ (i := 8) (N := some 53) #[true, true, true, true, true, true, true, true, true, false, false, false] rfl rfl (by kernel_rfl) (by decide) (fun K hK => ?_)
      rw [if_pos (by rfl)]
      refine wp_build_row (.tmp 52) rfl t'.now HT.out.good.now rfl ?_
      have hgl := blk_lt HT.out.blk
      refine hK.out _ _ ⟨by go_simp, ⟨World.rangeAt_alloc ((World.rangeAt_drew _ _ _ _).2 HN.out) _⟩⟩ (fun hHeld => ?_)
      clear hK K hgl
      refine norm_ (a' := ?_) ?_ ?_
      rotate_left
      · show Act.put _ (some 53) _ = _
        simp only [Act.put, List.setIfInBounds_toArray, List.set_cons_zero, List.set_cons_succ, i64_w, i32_w]
        rfl
      refine last_ (i := 9) (N := some 54) #[true, true, true, true, true, true, true, true, true, true, false, false] rfl rfl (by kernel_rfl) (by decide) (fun K hK => ?_)
      refine Kd.R_append_step rowK (w0 := w) w.heap.size (by rfl) (.tmp 48) (.tmp 53) 23 35 _ 296 rfl Try.underlying23 info35 rfl (by decide) (by decide) rv' t'.rows t'.now (nums .i64 t'.now) (fun k => True) (fun _ => False) rfl rfl (row_M _ _ _ _ HT.out.good.now) (fun _ h => h.elim) (fun _ _ => trivial) ?aO ?aB ?aS ?aL ?_
      case aO => exact Kd.R_mono (Kd.R_below HT.out.rows (below_drew (Below.refl _ _))) (fun _ _ => trivial)
      case aB => exact below_drew HB.out
      case aS => exact HB.out.size
      case aL => have := HBF.out.1; have := HF.out.rows; omega
      intro v1 w4 ho hbb hgr hat
      have HO := Aside0.mk ho
      have HBB := Aside0.mk hbb
      clear ho hbb hgr hat
      refine hK.out _ _ ?_
      clear hK K
      refine norm_ (a' := ?_) ?_ ?_
      rotate_left
      · show Act.put _ (some 54) _ = _
        simp only [Act.put, List.setIfInBounds_toArray, List.set_cons_zero, List.set_cons_succ, i64_w, i32_w]
        rfl
      refine pure_ (i := 10) (N := some 6) (v := ?_) (a' := ?_) #[true, true, true, true, true, true, true, true, true, true, true, false] rfl rfl (by kernel_rfl) (fun _ _ _ h => h) (Or.inl ⟨by rfl, ?_⟩) ?_ ?_
      rotate_left
      · intro u
        go_simp
        with_reducible rfl
      rotate_left
      · simp only [Act.put, List.setIfInBounds_toArray, List.set_cons_zero, List.set_cons_succ, i64_w, i32_w]
        rfl
      refine pure_ (i := 11) (N := some 7) (v := ?_) (a' := ?_) #[true, true, true, true, true, true, true, true, true, true, true, true] rfl rfl (by kernel_rfl) (fun _ _ _ h => h) (Or.inl ⟨by rfl, ?_⟩) ?_ ?_
      rotate_left
      · intro u
        go_simp
        with_reducible rfl
      rotate_left
      · simp only [Act.put, List.setIfInBounds_toArray, List.set_cons_zero, List.set_cons_succ, i64_w, i32_w]
        rfl
      refine done_ (by kernel_rfl) ?_
      go_wp2
      rw [Exit.noGoto_ret]
      go_ret2
      exact ⟨_, rfl, HO.out, HBB.out⟩
    | succ gk =>
      have hltb : decide ((n : Int) < (l1.length : Int)) = true := decide_eq_true (by omega)
      obtain ⟨ad, rfl, hx0, hx1, hx2⟩ := at_T40 (Kd.C_below HR1.out HB.out) (n : Int) (by omega) (by omega)
      rw [Int.toNat_natCast] at hx0 hx1 hx2
      have hd := opl_drop l1 n (by omega)
      generalize rd_T40 l1 (n : Int) = x at *
      have HDR := Aside0.mk hd
      clear hd
      go_wp2_with fail
      refine (do_calls _ w.heap.size g t' rv' kv' (HT.out.below (below_alloc (Below.refl _ _) _)) (by have := HB.out.size; simp; omega) x.f0 x.f1 x.f2 (by have := HF.out.rows; have := HF.out.kept; have := HBF.out; have := HF.out.size; omega)).mono ?_
      rintro e w5 ⟨rfl, hb2, hp⟩
      have hB2 : Below w.heap.size w w5 := (below_alloc HB.out _).trans hb2
      have he : doAll t' ((opl l1).drop n) = (does t' x.f0 x.f1 x.f2).bind fun t'' => doAll t'' ((opl l1).drop (n + 1)) := by rw [HDR.out]; rfl
      cases hd : does t' x.f0 x.f1 x.f2 with
      | none =>
        rw [hd] at he
        have HE := Aside0.mk (HD.out.trans he)
        have HB2 := Aside0.mk hB2
        clear he hd hb2 hp hB2
        simp only [Option.isSome_none]
        go_wp2
        rw [Exit.noGoto_ret]
        go_ret2
        have hres := HR.out
        rw [HE.out] at hres
        have hres2 : ([], (130 : Int)) = R := hres
        subst hres2
        exact ⟨_, rfl, Kd.R_nil _ _ _ _ _, HB2.out⟩
      | some t2 =>
        rw [hd] at he
        obtain ⟨rv2, kv2, hT2⟩ := hp t2 hd
        have HE := Aside0.mk (HD.out.trans he)
        have HB2 := Aside0.mk hB2
        have HT2 := Aside0.mk hT2
        have HF2 := Aside0.mk (HF.out.step hd)
        clear he hd hb2 hp hB2 hT2
        simp only [Option.isSome_some]
        go_wp2
        go_roundg gk
        case measure => omega
        case rel => exact ⟨rfl, n + 1, t2, rv2, kv2, by omega, by go_num, HE, HT2, HB2, HF2⟩
theorem rows_calls (A0 : Option Addr) (c0 : Nat) (l0 : List S40) (A1 : Option Addr) (c1 : Nat) (l1 : List S40) (size : Int) (w : World) (hr0 : Kd.C k40 w A0 l0.length l0) (hr1 : Kd.C k40 w A1 l1.length l1) :
    Calls Try.prog 10 #[.slice A0 l0.length c0, .slice A1 l1.length c1, .int .i64 size] w (RowsPost w (rowsOf (opl l0) (opl l1) size)) := by
  obtain ⟨m, hm⟩ : ∃ m, (if l0.length < l1.length then (l1.length : Int) else (l0.length : Int)) = m := ⟨_, rfl⟩
  have hm1 : (l0.length : Int) ≤ m ∧ (l1.length : Int) ≤ m ∧ (m = l0.length ∨ m = l1.length) := by rw [← hm]; split <;> omega
  unfold rowsOf
  rw [opl_length, opl_length]
  by_cases c1' : size < 0 ∨ 1048576 < size
  · rw [if_pos c1']
    exact rows_refused A0 c0 l0 A1 c1 l1 size w m hm 11 (if_pos c1') (by decide)
  rw [if_neg c1']
  by_cases c2 : 4000 < l0.length ∨ 4000 < l1.length
  · rw [if_pos c2]
    exact rows_refused A0 c0 l0 A1 c1 l1 size w m hm 6 (by rw [if_neg c1', if_pos (by omega)]) (by decide)
  rw [if_neg c2]
  unfold run
  cases hb : begin_ (fresh size) (opl l0) with
  | none => exact rows_nobegin A0 c0 l0 A1 c1 l1 size w hr0 hr1 m hm (by omega) (by omega) (by omega) (by omega) (by omega) hb
  | some t1 => exact rows_main A0 c0 l0 A1 c1 l1 size w hr0 hr1 m hm (by omega) (by omega) (by omega) (by omega) (by omega) t1 hb
end Go.Proofs.Ytngddlihppomhaa.Cfa
