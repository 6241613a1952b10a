/- The reference's Rows: what it answers, for any two programs and any size. -/
import Derived.Test.YtngddlihppomhaaRefOne
import Derived.Test.YtngddlihppomhaaCfaRiseWalk
namespace Go.Proofs.Ytngddlihppomhaa.CfaR
set_option linter.unusedVariables false
set_option linter.unusedSimpArgs false
open Go.RowKit Go.Proofs.Ytngddlihppomhaa.G Go.Proofs.YtngddlihppomhaaW.PrintWords Go.Proofs.YtngddlihppomhaaW.PrintLast Go.Proofs.YtngddlihppomhaaW.PrintMore Go.Proofs.Ytngddlihppomhaa.Cfa
set_option maxRecDepth 100000 in
theorem new_calls (size : Int) (hs : size ≤ 1048576) (w : World) : Calls Try.prog 29 #[.int .i64 size] w fun e w' => e = .returned (.pointer (some ⟨w.heap.size, 0, none⟩)) ∧ Below w.heap.size w w' ∧ Tab w' w.heap.size w.heap.size (fresh size) (.slice none 0 0) (.slice none 0 0) := by
  have HS := Aside0.mk hs
  clear hs
  go_enter Try.func29, Try.ntmps29
  go_wp2
  go_ret
  refine ⟨rfl, below_alloc (Below.refl _ _) _, good_fresh size HS.out, Nat.le_refl _, blk_new w _, Kd.R_nil _ _ _ _ _, Kd.R_nil _ _ _ _ _⟩
theorem ropl_drop (l : List S41) (n : Nat) (hn : n < l.length) : (opl (conv l)).drop n = ((rd_T41 l n).f0, (rd_T41 l n).f1, (rd_T41 l n).f2) :: (opl (conv l)).drop (n + 1) := by
  have : rd_T41 l (n : Int) = l[n] := by simp [rd_T41, List.getD, hn]
  rw [this, opl, conv, List.map_map, List.drop_eq_getElem_cons (by simpa using hn), List.getElem_map]
  rfl
theorem ropl_length (l : List S41) : (opl (conv l)).length = l.length := by rw [opl_length, conv_length]
set_option maxRecDepth 100000 in
theorem begin_calls (w : World) (base g : Nat) (t : T) (rv kv : Value) (h : Tab w base g t rv kv) (hb : base ≤ w.heap.size) (A0 : Option Addr) (c0 : Nat) (l0 : List S41) (hr0 : ∀ W, Below base w W → Kd.C k41 W A0 l0.length l0) (hl0 : l0.length ≤ 100000) (hl : t.rows.length ≤ 100000 ∧ t.kept.length ≤ 100000 ∧ 0 ≤ t.size) (hbg : t.begun = false) :
    Calls Try.prog 30 #[.pointer (some ⟨g, 0, none⟩), .slice A0 l0.length c0] w (Post base g w (begin_ t (opl (conv l0)))) := by
  have H := Aside0.mk h
  have HB := Aside0.mk hb
  have HL := Aside0.mk hl
  have HR0 := Aside0.mk hr0
  have HBG := Aside0.mk hbg
  have HBW := Aside0.mk (Below.refl base w)
  clear h hb hl hr0 hbg
  go_enter Try.func30, Try.ntmps30
  go_wp2
  go_loopg [5] l0.length (fun kq i w' => ∃ (n : Nat) (t' : T) (rv kv : Value), n + kq = l0.length ∧ i = .int .i64 (n : Int) ∧ Aside0 (doAll t (opl (conv l0)) = doAll t' ((opl (conv l0)).drop n)) ∧ Aside0 (Tab w' base g t' rv kv) ∧ Aside0 (Below base w w') ∧ Aside0 (Far t t' n))
  case atStart => exact ⟨0, t, rv, kv, by omega, rfl, ⟨rfl⟩, H, HBW, ⟨Far.zero t⟩⟩
  case round =>
    clear HBW H
    obtain ⟨n, t', rv', kv', hn, rfl, HD, H, HBW, HF⟩ := hrel
    cases gk with
    | zero =>
      have hltb : decide ((n : Int) < (l0.length : Int)) = false := by simp; omega
      have hd := HD.out
      rw [List.drop_of_length_le (by rw [ropl_length]; omega)] at hd
      have hfin : begin_ t (opl (conv l0)) = if 0 ≤ t'.now.getD 1 0 then some { t' with first := t'.now, begun := true } else none := by
        unfold begin_
        rw [hd]
        rfl
      have h := H.out
      have hn37 := h.good.now
      have g1 := set_firstAll h.blk h.good t'.now hn37
      have hg1 : Cfa.Good { t' with first := t'.now } := ⟨h.good.now, h.good.now, h.good.rows, h.good.kept, h.good.at0, h.good.size, h.good.atS⟩
      have hg2 : Cfa.Good { t' with first := t'.now, begun := true } := ⟨h.good.now, h.good.now, h.good.rows, h.good.kept, h.good.at0, h.good.size, h.good.atS⟩
      have hgr : wr.grownBy (wr.setCells g 38 (nums .i64 t'.now)) (some g) := grown_setCells _ _ _ _
      have hTT : Tab (wr.setCells g 38 (nums .i64 t'.now)) base g { t' with first := t'.now, begun := true } rv' kv' := h.turn hgr hg2 g1 rfl rfl
      have e3 : (wr.setCells g 38 (nums .i64 t'.now)).cell? ⟨g, 2, none⟩ = some (.int .i64 (t'.now.getD 1 0)) := by rw [blk_cell g1, List.getElem?_toArray]; exact cells_now hg1 1 (by omega)
      have HN := Aside0.mk h.nowR
      have HN37 := Aside0.mk hn37
      have HTH := Aside0.mk (there_of_blk (o := 38) (n := 37) h.blk (by rw [List.size_toArray, cells_len h.good]; decide))
      have HFIN := Aside0.mk hfin
      have HTT := Aside0.mk hTT
      have HBB := Aside0.mk (HBW.out.trans (below_grown hgr (by have := HB.out; have := HBW.out.size; omega) h.lo))
      obtain ⟨x, hx⟩ : ∃ x, t'.now.getD 1 0 = x := ⟨_, rfl⟩
      rw [hx] at e3
      have HX := Aside0.mk hx
      clear hd hfin h hn37 g1 hg1 hg2 hgr hTT hx HD HF
      go_wp2_with (first
        | ((with_reducible refine gate_dst (N := 23) rfl ?_); refine load_rowW rowTy rfl (.tmp 22) rfl g 1 rfl t'.now HN37.out HN.out ?_)
        | ((with_reducible refine gate_store (p := 25) rfl ?_); refine store_rowW rowTy rfl (.tmp 25) (.tmp 23) rfl g 38 t'.now HN37.out rfl rfl HTH.out ?_))
      go_ret
      have e := HFIN.out
      rw [HX.out] at e
      rw [e]
      by_cases c : 0 ≤ x
      · rw [if_pos c, decide_eq_true (show x ≥ 0 from c)]
        refine ⟨rfl, HBB.out, fun t2 e => ?_⟩
        cases e
        exact ⟨_, _, HTT.out⟩
      · rw [if_neg c, decide_eq_false (show ¬ x ≥ 0 from c)]
        exact ⟨rfl, HBB.out, fun t2 e => by cases e⟩
    | succ gk =>
      have hltb : decide ((n : Int) < (l0.length : Int)) = true := by simp; omega
      obtain ⟨ad, rfl, hx0, hx1, hx2⟩ := at_T41 (HR0.out _ HBW.out) (n : Int) (by omega) (by omega)
      rw [Int.toNat_natCast] at hx0 hx1 hx2
      have hd := ropl_drop l0 n (by omega)
      generalize rd_T41 l0 (n : Int) = x at *
      have HDR := Aside0.mk hd
      clear hd
      go_wp2_with fail
      refine (one_calls _ base g t' rv' kv' H.out (by have := HB.out; have := HBW.out.size; omega) x.f0 x.f1 x.f2 true (by rw [HF.out.begun, HBG.out]; rfl) (by have := HF.out.rows; have := HL.out; omega) (by have := HF.out.kept; have := HL.out; omega) (by have := HF.out.size; have := HL.out; omega)).mono ?_
      rintro e w2 ⟨rfl, hb2, hp⟩
      have hB2 : Below base w w2 := HBW.out.trans hb2
      have he : doAll t' ((opl (conv l0)).drop n) = (does t' x.f0 x.f1 x.f2).bind fun t'' => doAll t'' ((opl (conv l0)).drop (n + 1)) := by rw [HDR.out]; rfl
      cases hd : does t' x.f0 x.f1 x.f2 with
      | none =>
        rw [hd] at he
        have HE := Aside0.mk (HD.out.trans he)
        have HB2 := Aside0.mk hB2
        clear he hd hb2 hp hB2
        simp only [Option.isSome_none]
        go_wp2
        go_ret
        have e : begin_ t (opl (conv l0)) = none := by unfold begin_; rw [HE.out]; rfl
        rw [e]
        exact ⟨rfl, HB2.out, fun _ e => by cases e⟩
      | some t2 =>
        rw [hd] at he
        obtain ⟨rv2, kv2, hT2⟩ := hp t2 hd
        have HE := Aside0.mk (HD.out.trans he)
        have HB2 := Aside0.mk hB2
        have HT2 := Aside0.mk hT2
        have HF2 := Aside0.mk (HF.out.step hd)
        clear he hd hb2 hp hB2 hT2
        simp only [Option.isSome_some]
        go_wp2
        go_roundg gk
        case measure => omega
        case rel => exact ⟨n + 1, t2, rv2, kv2, by omega, by go_num, HE, HT2, HB2, HF2⟩
theorem begin_begun {t t1 : T} {l : List (Int × Int × Int)} (e : begin_ t l = some t1) : t1.begun = true := by
  unfold begin_ at e
  cases hd : doAll t l with
  | none => rw [hd] at e; cases e
  | some t2 =>
    rw [hd] at e
    rcases ite_cases e with ⟨_, e⟩ | ⟨_, e⟩
    · cases e; rfl
    · cases e
/-- What Rows answers. -/
def RowsPost (w : World) (r : List Row × Int) (e : Ending) (w' : World) : Prop :=
  ∃ v, e = .returned (.tuple #[v, .int .i64 r.2]) ∧ Kd.R rowK 53 w' w.heap.size (fun _ => True) v r.1 ∧ Below w.heap.size w w'
set_option maxRecDepth 100000 in
theorem rows_refused (A0 : Option Addr) (c0 : Nat) (l0 : List S41) (A1 : Option Addr) (c1 : Nat) (l1 : List S41) (size : Int) (w : World) (h : size < 0 ∨ 1048576 < size) :
    Calls Try.prog 15 #[.slice A0 l0.length c0, .slice A1 l1.length c1, .int .i64 size] w (RowsPost w ([], 11)) := by
  by_cases c : size < 0
  · have e1 : decide (size < 0) = true := decide_eq_true c
    clear h c
    go_enter Try.func15, Try.ntmps15
    go_wp2
    go_ret2
    exact ⟨_, rfl, Kd.R_nil _ _ _ _ _, Below.refl _ _⟩
  · have e1 : decide (size < 0) = false := decide_eq_false c
    have e2 : decide (size > 1048576) = true := decide_eq_true (by omega)
    clear h c
    go_enter Try.func15, Try.ntmps15
    go_wp2
    go_ret2
    exact ⟨_, rfl, Kd.R_nil _ _ _ _ _, Below.refl _ _⟩
set_option maxRecDepth 100000 in
theorem rows_long (A0 : Option Addr) (c0 : Nat) (l0 : List S41) (A1 : Option Addr) (c1 : Nat) (l1 : List S41) (size : Int) (w : World) (hs : ¬ (size < 0 ∨ 1048576 < size)) (h : 4000 < l0.length ∨ 4000 < l1.length) :
    Calls Try.prog 15 #[.slice A0 l0.length c0, .slice A1 l1.length c1, .int .i64 size] w (RowsPost w ([], 6)) := by
  have e1 : decide (size < 0) = false := decide_eq_false (by omega)
  have e2 : decide (size > 1048576) = false := decide_eq_false (by omega)
  by_cases c : 4000 < l0.length
  · have e3 : decide ((l0.length : Int) > 4000) = true := decide_eq_true (by omega)
    clear h c hs
    go_enter Try.func15, Try.ntmps15
    go_wp2
    go_ret2
    exact ⟨_, rfl, Kd.R_nil _ _ _ _ _, Below.refl _ _⟩
  · have e3 : decide ((l0.length : Int) > 4000) = false := decide_eq_false (by omega)
    have e4 : decide ((l1.length : Int) > 4000) = true := decide_eq_true (by omega)
    clear h c hs
    go_enter Try.func15, Try.ntmps15
    go_wp2
    go_ret2
    exact ⟨_, rfl, Kd.R_nil _ _ _ _ _, Below.refl _ _⟩
theorem wrapN {n m : Nat} (h : n < m) (hm : m ≤ 4000) : wrap64 ((n : Int) + 1) = (n : Int) + 1 := by unfold wrap64; omega
set_option maxHeartbeats 1000000 in
set_option maxRecDepth 100000 in
theorem rows_main (A0 : Option Addr) (c0 : Nat) (l0 : List S41) (A1 : Option Addr) (c1 : Nat) (l1 : List S41) (size : Int) (w : World) (hr0 : Kd.C k41 w A0 l0.length l0) (hr1 : Kd.C k41 w A1 l1.length l1) (hs : ¬ (size < 0 ∨ 1048576 < size)) (h : ¬ (4000 < l0.length ∨ 4000 < l1.length)) (R : List Row × Int) (hR : (match (begin_ (fresh size) (opl (conv l0))).bind fun t => doAll t (opl (conv l1)) with | none => (([] : List Row), (130 : Int)) | some t => (t.rows ++ [t.now], 0)) = R) :
    Calls Try.prog 15 #[.slice A0 l0.length c0, .slice A1 l1.length c1, .int .i64 size] w (RowsPost w R) := by
  have e1 : decide (size < 0) = false := decide_eq_false (by omega)
  have e2 : decide (size > 1048576) = false := decide_eq_false (by omega)
  have e3 : decide ((l0.length : Int) > 4000) = false := decide_eq_false (by omega)
  have e4 : decide ((l1.length : Int) > 4000) = false := decide_eq_false (by omega)
  have HS := Aside0.mk (show 0 ≤ size ∧ size ≤ 1048576 from by omega)
  have HLN := Aside0.mk (show l0.length ≤ 4000 ∧ l1.length ≤ 4000 from by omega)
  have HR0 := Aside0.mk hr0
  have HR1 := Aside0.mk hr1
  have HR := Aside0.mk hR
  clear hr0 hr1 hs h hR
  go_enter Try.func15, Try.ntmps15
  go_wp2_with fail
  refine (new_calls size HS.out.2 _).mono ?_
  rintro e w2 ⟨rfl, hb2, hT⟩
  have HB2 := Aside0.mk hb2
  have HT := Aside0.mk hT
  have HLE := Aside0.mk (Nat.le_refl w.heap.size)
  clear hb2 hT
  go_wp2_with fail
  refine (begin_calls _ w.heap.size w.heap.size (fresh size) _ _ HT.out HB2.out.size A0 c0 l0 (fun W hW => Kd.C_below HR0.out (HB2.out.trans hW)) (by have := HLN.out; omega) ⟨by show 0 ≤ _; omega, by show 0 ≤ _; omega, HS.out.1⟩ rfl).mono ?_
  rintro e w3 ⟨rfl, hb3, hp⟩
  have HB3 := Aside0.mk (HB2.out.trans hb3)
  cases hbg : begin_ (fresh size) (opl (conv l0)) with
  | none =>
    have hres := HR.out
    rw [hbg] at hres
    have hres2 : ([], (130 : Int)) = R := hres
    subst hres2
    clear hres hbg hp hb3 HR
    simp only [Option.isSome_none]
    go_wp2
    go_ret2
    exact ⟨_, rfl, Kd.R_nil _ _ _ _ _, HB3.out⟩
  | some t1 =>
    have hbf := begin_far hbg
    rw [ropl_length] at hbf
    have HBF := Aside0.mk (show t1.rows.length ≤ 4000 ∧ t1.kept.length ≤ 4000 ∧ 0 ≤ t1.size from by
      have h1 : (fresh size).rows.length = 0 := rfl
      have h2 : (fresh size).kept.length = 0 := rfl
      have h3 : (fresh size).size = size := rfl
      have := HLN.out
      have := HS.out
      omega)
    have HBN := Aside0.mk (begin_begun hbg)
    have hres := HR.out
    rw [hbg] at hres
    have HRR := Aside0.mk (show (match doAll t1 (opl (conv l1)) with | none => (([] : List Row), (130 : Int)) | some t => (t.rows ++ [t.now], 0)) = R from hres)
    obtain ⟨rv, kv, hT3⟩ := hp t1 hbg
    have HT3 := Aside0.mk hT3
    clear hb3 hp hT3 HT HB2 hbf hbg hres HR
    simp only [Option.isSome_some]
    go_wp2
    go_loopg [9] l1.length (fun kq i w' => ∃ (n : Nat) (t' : T) (rv kv : Value), n + kq = l1.length ∧ i = .int .i64 (n : Int) ∧ Aside0 (doAll t1 (opl (conv l1)) = doAll t' ((opl (conv l1)).drop n)) ∧ Aside0 (Tab w' w.heap.size w.heap.size t' rv kv) ∧ Aside0 (Below w.heap.size w w') ∧ Aside0 (Far t1 t' n))
    case atStart => exact ⟨0, t1, rv, kv, by omega, rfl, ⟨rfl⟩, HT3, HB3, ⟨Far.zero t1⟩⟩
    case round =>
      clear HB3 HT3
      obtain ⟨n, t', rv', kv', hn, rfl, HD, HT, HB, HF⟩ := hrel
      cases gk with
      | zero =>
        have hltb : decide ((n : Int) < (l1.length : Int)) = false := decide_eq_false (by omega)
        have hd := HD.out
        rw [List.drop_of_length_le (by rw [ropl_length]; omega)] at hd
        have hres := HRR.out
        rw [hd] at hres
        have hres2 : (t'.rows ++ [t'.now], (0 : Int)) = R := hres
        subst hres2
        have f1 := HT.out.rowsC
        have HN := Aside0.mk HT.out.nowR
        have hgl := blk_lt HT.out.blk
        clear hd hres HRR HD
        go_wp2
        refine start_ (n := 12) (S := fun u => u.cell? ⟨w.heap.size, 0, none⟩ = some rv' ∧ Aside0 (u.rangeAt w.heap.size 1 (nums .i64 t'.now))) (ds := [9]) #[false, false, false, false, false, false, false, false, false, false, false, false] (by kernel_rfl) rfl rfl ?_ (fun hHeld => ?_)
        case refine_1 => exact ⟨by go_simp, ⟨(World.rangeAt_drew _ _ _ _).2 HN.out⟩⟩
        refine pure_ (i := 0) (N := some 43) (v := ?_) (a' := ?_) #[true, false, false, false, false, false, false, false, false, false, false, false] rfl rfl (by kernel_rfl) (fun _ _ _ h => h) (Or.inl ⟨by rfl, ?_⟩) ?_ ?_
        rotate_left
        · intro u
          go_simp
          with_reducible rfl
        rotate_left
        · simp only [Act.put, List.setIfInBounds_toArray, List.set_cons_zero, List.set_cons_succ, i64_w, i32_w]
          rfl
        refine pure_ (i := 1) (N := some 44) (v := ?_) (a' := ?_) #[true, true, false, false, false, false, false, false, false, false, false, false] rfl rfl (by kernel_rfl) (fun _ _ _ h => h) (Or.inl ⟨by rfl, ?_⟩) ?_ ?_
        rotate_left
        · intro u
          go_simp
          with_reducible rfl
        rotate_left
        · simp only [Act.put, List.setIfInBounds_toArray, List.set_cons_zero, List.set_cons_succ, i64_w, i32_w]
          rfl
        refine pure_ (i := 2) (N := some 45) (v := ?_) (a' := ?_) #[true, true, true, false, false, false, false, false, false, false, false, false] rfl rfl (by kernel_rfl) (fun _ _ _ h => h) (Or.inl ⟨by rfl, ?_⟩) ?_ ?_
        rotate_left
        · intro u
          go_simp
          with_reducible rfl
        rotate_left
        · simp only [Act.put, List.setIfInBounds_toArray, List.set_cons_zero, List.set_cons_succ, i64_w, i32_w]
          rfl
        refine take_ (i := 3) (N := some 46) (v := ?_) (a' := ?_) #[true, true, true, true, false, false, false, false, false, false, false, false] rfl rfl (by kernel_rfl) (fun _ _ _ h => h) (Or.inl ⟨by rfl, ?_⟩) hHeld ?_ ?_
        rotate_left
        · rintro u ⟨s0, s1⟩
          go_simp
          with_reducible rfl
        rotate_left
        · simp only [Act.put, List.setIfInBounds_toArray, List.set_cons_zero, List.set_cons_succ, i64_w, i32_w]
          rfl
        refine pure_ (i := 4) (N := some 47) (v := ?_) (a' := ?_) #[true, true, true, true, true, false, false, false, false, false, false, false] rfl rfl (by kernel_rfl) (fun _ _ _ h => h) (Or.inl ⟨by rfl, ?_⟩) ?_ ?_
        rotate_left
        · intro u
          go_simp
          with_reducible rfl
        rotate_left
        · simp only [Act.put, List.setIfInBounds_toArray, List.set_cons_zero, List.set_cons_succ, i64_w, i32_w]
          rfl
        refine pure_ (i := 5) (N := some 48) (v := ?_) (a' := ?_) #[true, true, true, true, true, true, false, false, false, false, false, false] rfl rfl (by kernel_rfl) (fun _ _ _ h => h) (Or.inl ⟨by rfl, ?_⟩) ?_ ?_
        rotate_left
        · intro u
          go_simp
          with_reducible rfl
        rotate_left
        · simp only [Act.put, List.setIfInBounds_toArray, List.set_cons_zero, List.set_cons_succ, i64_w, i32_w]
          rfl
        refine pure_ (i := 6) (N := some 49) (v := ?_) (a' := ?_) #[true, true, true, true, true, true, true, false, false, false, false, false] rfl rfl (by kernel_rfl) (fun _ _ _ h => h) (Or.inl ⟨by rfl, ?_⟩) ?_ ?_
        rotate_left
        · intro u
          go_simp
          with_reducible rfl
        rotate_left
        · simp only [Act.put, List.setIfInBounds_toArray, List.set_cons_zero, List.set_cons_succ, i64_w, i32_w]
          rfl
        refine take_ (i := 7) (N := some 50) (v := .agg (nums .i64 t'.now).toArray) (a' := ?_) #[true, true, true, true, true, true, true, true, false, false, false, false] rfl rfl (by kernel_rfl) (fun _ _ _ h => h) (load_row_y (by rfl) (.tmp 49) rfl w.heap.size 1 rfl t'.now HT.out.good.now (fun u hu => hu.2.out)) hHeld ?_ ?_
        rotate_left
        · simp only [Act.put, List.setIfInBounds_toArray, List.set_cons_zero, List.set_cons_succ, i64_w, i32_w]
          rfl
        refine one_ (i := 8) (N := some 51) #[true, true, true, true, true, true, true, true, true, false, false, false] rfl rfl (by kernel_rfl) (by decide) (fun K hK => ?_)
        rw [if_pos (by rfl)]
        refine wp_build_row (.tmp 50) rfl t'.now HT.out.good.now rfl ?_
        refine hK.out _ _ ⟨by go_simp, ⟨World.rangeAt_alloc ((World.rangeAt_drew _ _ _ _).2 HN.out) _⟩⟩ (fun hHeld => ?_)
        clear hK K
        refine norm_ (a' := ?_) ?_ ?_
        rotate_left
        · show Act.put _ (some 51) _ = _
          simp only [Act.put, List.setIfInBounds_toArray, List.set_cons_zero, List.set_cons_succ, i64_w, i32_w]
          rfl
        refine last_ (i := 9) (N := some 52) #[true, true, true, true, true, true, true, true, true, true, false, false] rfl rfl (by kernel_rfl) (by decide) (fun K hK => ?_)
        refine Kd.R_append_step rowK (w0 := w) w.heap.size (by rfl) (.tmp 46) (.tmp 51) 44 53 _ 296 rfl Try.underlying44 info53 rfl (by decide) (by decide) rv' t'.rows t'.now (nums .i64 t'.now) (fun k => True) (fun _ => False) rfl rfl (row_M _ _ _ _ HT.out.good.now) (fun _ h => h.elim) (fun _ _ => trivial) ?aO ?aB ?aS ?aL ?_
        case aO => exact Kd.R_mono (Kd.R_below HT.out.rows (below_drew (Below.refl _ _))) (fun _ _ => trivial)
        case aB => exact below_drew HB.out
        case aS => exact HB.out.size
        case aL => have := HBF.out.1; have := HF.out.rows; have := HLN.out; omega
        intro v1 w4 ho hbb hgr hat
        have HO := Aside0.mk ho
        have HBB := Aside0.mk hbb
        clear ho hbb hgr hat
        refine hK.out _ _ ?_
        clear hK K
        refine norm_ (a' := ?_) ?_ ?_
        rotate_left
        · show Act.put _ (some 52) _ = _
          simp only [Act.put, List.setIfInBounds_toArray, List.set_cons_zero, List.set_cons_succ, i64_w, i32_w]
          rfl
        refine pure_ (i := 10) (N := some 6) (v := ?_) (a' := ?_) #[true, true, true, true, true, true, true, true, true, true, true, false] rfl rfl (by kernel_rfl) (fun _ _ _ h => h) (Or.inl ⟨by rfl, ?_⟩) ?_ ?_
        rotate_left
        · intro u
          go_simp
          with_reducible rfl
        rotate_left
        · simp only [Act.put, List.setIfInBounds_toArray, List.set_cons_zero, List.set_cons_succ, i64_w, i32_w]
          rfl
        refine pure_ (i := 11) (N := some 7) (v := ?_) (a' := ?_) #[true, true, true, true, true, true, true, true, true, true, true, true] rfl rfl (by kernel_rfl) (fun _ _ _ h => h) (Or.inl ⟨by rfl, ?_⟩) ?_ ?_
        rotate_left
        · intro u
          go_simp
          with_reducible rfl
        rotate_left
        · simp only [Act.put, List.setIfInBounds_toArray, List.set_cons_zero, List.set_cons_succ, i64_w, i32_w]
          rfl
        refine done_ (by kernel_rfl) ?_
        go_wp2
        go_ret2
        exact ⟨_, rfl, HO.out, HBB.out⟩
      | succ gk =>
        have hltb : decide ((n : Int) < (l1.length : Int)) = true := decide_eq_true (by omega)
        have hw1 := wrapN (show n < l1.length from by omega) HLN.out.2
        obtain ⟨ad, rfl, hx0, hx1, hx2⟩ := at_T41 (Kd.C_below HR1.out HB.out) (n : Int) (by omega) (by omega)
        rw [Int.toNat_natCast] at hx0 hx1 hx2
        have hd := ropl_drop l1 n (by omega)
        generalize rd_T41 l1 (n : Int) = x at *
        have HDR := Aside0.mk hd
        clear hd
        go_wp2_with fail
        refine (one_calls _ w.heap.size w.heap.size t' rv' kv' HT.out HB.out.size x.f0 x.f1 x.f2 false (by rw [HF.out.begun, HBN.out]; rfl) (by have := HF.out.rows; have := HBF.out; have := HLN.out; omega) (by have := HF.out.kept; have := HBF.out; have := HLN.out; omega) (by have := HF.out.size; have := HBF.out; omega)).mono ?_
        rintro e w5 ⟨rfl, hb2, hp⟩
        have hB2 : Below w.heap.size w w5 := HB.out.trans hb2
        have he : doAll t' ((opl (conv l1)).drop n) = (does t' x.f0 x.f1 x.f2).bind fun t'' => doAll t'' ((opl (conv l1)).drop (n + 1)) := by rw [HDR.out]; rfl
        cases hd : does t' x.f0 x.f1 x.f2 with
        | none =>
          rw [hd] at he
          have hres := HRR.out
          rw [HD.out.trans he] at hres
          have hres2 : ([], (130 : Int)) = R := hres
          subst hres2
          have HB2 := Aside0.mk hB2
          clear he hd hb2 hp hB2 hres HRR
          simp only [Option.isSome_none]
          go_wp2
          go_ret2
          exact ⟨_, rfl, Kd.R_nil _ _ _ _ _, HB2.out⟩
        | some t2 =>
          rw [hd] at he
          obtain ⟨rv2, kv2, hT2⟩ := hp t2 hd
          have HE := Aside0.mk (HD.out.trans he)
          have HB2 := Aside0.mk hB2
          have HT2 := Aside0.mk hT2
          have HF2 := Aside0.mk (HF.out.step hd)
          clear he hd hb2 hp hB2 hT2
          simp only [Option.isSome_some]
          go_wp2
          go_roundg gk
          case measure => omega
          case rel => exact ⟨n + 1, t2, rv2, kv2, by omega, by go_num, HE, HT2, HB2, HF2⟩
theorem rows_calls (A0 : Option Addr) (c0 : Nat) (l0 : List S41) (A1 : Option Addr) (c1 : Nat) (l1 : List S41) (size : Int) (w : World) (hr0 : Kd.C k41 w A0 l0.length l0) (hr1 : Kd.C k41 w A1 l1.length l1) :
    Calls Try.prog 15 #[.slice A0 l0.length c0, .slice A1 l1.length c1, .int .i64 size] w (RowsPost w (rowsOf (opl (conv l0)) (opl (conv l1)) size)) := by
  unfold rowsOf
  rw [ropl_length, ropl_length]
  by_cases c1' : size < 0 ∨ 1048576 < size
  · rw [if_pos c1']
    exact rows_refused A0 c0 l0 A1 c1 l1 size w c1'
  rw [if_neg c1']
  by_cases c2 : 4000 < l0.length ∨ 4000 < l1.length
  · rw [if_pos c2]
    exact rows_long A0 c0 l0 A1 c1 l1 size w c1' c2
  rw [if_neg c2]
  exact rows_main A0 c0 l0 A1 c1 l1 size w hr0 hr1 c1' c2 _ rfl
end Go.Proofs.Ytngddlihppomhaa.CfaR
