/- The table of a program of frame rules, made by the program's own code. -/
import Derived.Test.YtngddlihppomhaaCfaDo2
import Derived.Test.YtngddlihppomhaaGfM
namespace Go.Proofs.Ytngddlihppomhaa.Cfa
set_option linter.unusedVariables false
set_option linter.unusedSimpArgs false
open Go.RowKit Go.Proofs.Ytngddlihppomhaa.G Go.Proofs.YtngddlihppomhaaW.PrintWords Go.Proofs.YtngddlihppomhaaW.PrintLast Go.Proofs.YtngddlihppomhaaW.PrintMore

set_option maxRecDepth 100000 in
theorem fresh_calls (size : Int) (hs : size ≤ 1048576) (w : World) : Calls Try.prog 25 #[.int .i64 size] w fun e w' => e = .returned (.pointer (some ⟨w.heap.size, 0, none⟩)) ∧ Below w.heap.size w w' ∧ Tab w' w.heap.size w.heap.size (fresh size) (.slice none 0 0) (.slice none 0 0) := by
  have HS := Aside0.mk hs
  clear hs
  go_enter Try.func25, Try.ntmps25
  go_wp2
  go_ret
  refine ⟨rfl, below_alloc (Below.refl _ _) _, good_fresh size HS.out, Nat.le_refl _, blk_new w _, Kd.R_nil _ _ _ _ _, Kd.R_nil _ _ _ _ _⟩
/-- Ops as plain triples. -/
def opl (l : List S40) : List (Int × Int × Int) := l.map fun o => (o.f0, o.f1, o.f2)
theorem opl_drop (l : List S40) (n : Nat) (hn : n < l.length) : (opl l).drop n = ((rd_T40 l n).f0, (rd_T40 l n).f1, (rd_T40 l n).f2) :: (opl l).drop (n + 1) := by
  have : rd_T40 l (n : Int) = l[n] := by simp [rd_T40, List.getD, hn]
  rw [this, opl, List.drop_eq_getElem_cons (by simpa using hn), List.getElem_map]
theorem opl_length (l : List S40) : (opl l).length = l.length := by simp [opl]
/-- How far a table has come from another in n ops. -/
structure Far (t t' : T) (n : Nat) : Prop where
  rows : t'.rows.length ≤ t.rows.length + n
  kept : t'.kept.length ≤ t.kept.length + n
  size : t'.size = t.size
  begun : t'.begun = t.begun
  first : t'.first = t.first
theorem Far.zero (t : T) : Far t t 0 := ⟨Nat.le_refl _, Nat.le_refl _, rfl, rfl, rfl⟩
theorem Far.step {t t' t2 : T} {n : Nat} {k r m : Int} (h : Far t t' n) (e : does t' k r m = some t2) : Far t t2 (n + 1) := by
  obtain ⟨h1, h2, h3, h4, h5⟩ := does_size e
  exact ⟨by have := h.rows; omega, by have := h.kept; omega, h1.trans h.size, h2.trans h.begun, h3.trans h.first⟩
set_option maxRecDepth 100000 in
theorem begin_calls (w : World) (base g : Nat) (t : T) (rv kv : Value) (h : Tab w base g t rv kv) (hb : base ≤ w.heap.size) (A0 : Option Addr) (c0 : Nat) (l0 : List S40) (hr0 : ∀ W, Below base w W → Kd.C k40 W A0 l0.length l0) (hl0 : l0.length ≤ 100000) (hl : t.rows.length ≤ 100000 ∧ t.kept.length ≤ 100000 ∧ 0 ≤ t.size) :
    Calls Try.prog 26 #[.pointer (some ⟨g, 0, none⟩), .slice A0 l0.length c0] w (Post base g w (begin_ t (opl l0))) := by
  have H := Aside0.mk h
  have HB := Aside0.mk hb
  have HL := Aside0.mk hl
  have HR0 := Aside0.mk hr0
  have HBW := Aside0.mk (Below.refl base w)
  clear h hb hl hr0
  go_enter Try.func26, Try.ntmps26
  go_wp2
  go_loopg [9] l0.length (fun kq i w' => ∃ (n : Nat) (t' : T) (rv kv : Value), n + kq = l0.length ∧ i = .int .i64 (n : Int) ∧ Aside0 (doAll t (opl l0) = doAll t' ((opl l0).drop n)) ∧ Aside0 (Tab w' base g t' rv kv) ∧ Aside0 (Below base w w') ∧ Aside0 (Far t t' n))
  case atStart => exact ⟨0, t, rv, kv, by omega, rfl, ⟨rfl⟩, H, HBW, ⟨Far.zero t⟩⟩
  case round =>
    clear HBW H
    obtain ⟨n, t', rv', kv', hn, rfl, HD, H, HBW, HF⟩ := hrel
    cases gk with
    | zero =>
      have hltb : decide ((n : Int) < (l0.length : Int)) = false := by simp; omega
      have hd := HD.out
      rw [List.drop_of_length_le (by rw [opl_length]; omega)] at hd
      have hfin : begin_ t (opl l0) = if 0 ≤ t'.now.getD 1 0 then some { t' with first := t'.now, begun := true } else none := by
        unfold begin_
        rw [hd]
        rfl
      have h := H.out
      have hn37 := h.good.now
      have g1 := set_firstAll h.blk h.good t'.now hn37
      have hg1 : Good { t' with first := t'.now } := ⟨h.good.now, h.good.now, h.good.rows, h.good.kept, h.good.at0, h.good.size, h.good.atS⟩
      have hg2 : Good { t' with first := t'.now, begun := true } := ⟨h.good.now, h.good.now, h.good.rows, h.good.kept, h.good.at0, h.good.size, h.good.atS⟩
      have g2 := set_begun g1 hg1 true
      have hgr : wr.grownBy ((wr.setCells g 38 (nums .i64 t'.now)).setCell ⟨g, 77, none⟩ (.bool true)) (some g) := grown_set' (grown_setCells _ _ _ _) _ _
      have hTT : Tab ((wr.setCells g 38 (nums .i64 t'.now)).setCell ⟨g, 77, none⟩ (.bool true)) base g { t' with first := t'.now, begun := true } rv' kv' := h.turn hgr hg2 g2 rfl rfl
      have e1 : (wr.setCells g 38 (nums .i64 t'.now)).cell? ⟨g, 77, none⟩ = some (.bool t'.begun) := by rw [blk_cell g1, List.getElem?_toArray]; exact cells_tail hg1 2
      have e2 : (wr.setCells g 38 (nums .i64 t'.now)).frozen? ⟨g, 77, none⟩ = false := blk_frozen g1 77
      have e3 : (wr.setCells g 38 (nums .i64 t'.now)).cell? ⟨g, 2, none⟩ = some (.int .i64 (t'.now.getD 1 0)) := by rw [blk_cell g1, List.getElem?_toArray]; exact cells_now hg1 1 (by omega)
      have HN := Aside0.mk h.nowR
      have HN37 := Aside0.mk hn37
      have HTH := Aside0.mk (there_of_blk (o := 38) (n := 37) h.blk (by rw [List.size_toArray, cells_len h.good]; decide))
      have HFIN := Aside0.mk hfin
      have HTT := Aside0.mk hTT
      have HBB := Aside0.mk (HBW.out.trans (below_grown hgr (by have := HB.out; have := HBW.out.size; omega) h.lo))
      obtain ⟨x, hx⟩ : ∃ x, t'.now.getD 1 0 = x := ⟨_, rfl⟩
      rw [hx] at e3
      have HX := Aside0.mk hx
      clear hd hfin h hn37 g1 hg1 hg2 g2 hgr hTT hx HD HF
      go_wp2_with (first
        | (refine load_rowW rowTy rfl (.tmp 22) rfl g 1 rfl t'.now HN37.out HN.out ?_)
        | (refine store_rowW rowTy rfl (.tmp 25) (.tmp 23) rfl g 38 t'.now HN37.out rfl rfl HTH.out ?_))
      go_ret
      have e := HFIN.out
      rw [HX.out] at e
      rw [e]
      by_cases c : 0 ≤ x
      · rw [if_pos c, decide_eq_true (show x ≥ 0 from c)]
        refine ⟨rfl, HBB.out, fun t2 e => ?_⟩
        cases e
        exact ⟨_, _, HTT.out⟩
      · rw [if_neg c, decide_eq_false (show ¬ x ≥ 0 from c)]
        exact ⟨rfl, HBB.out, fun t2 e => by cases e⟩
    | succ gk =>
      have hltb : decide ((n : Int) < (l0.length : Int)) = true := by simp; omega
      obtain ⟨ad, rfl, hx0, hx1, hx2⟩ := at_T40 (HR0.out _ HBW.out) (n : Int) (by omega) (by omega)
      rw [Int.toNat_natCast] at hx0 hx1 hx2
      have hd := opl_drop l0 n (by omega)
      generalize rd_T40 l0 (n : Int) = x at *
      have HDR := Aside0.mk hd
      clear hd
      go_wp2_with fail
      refine (do_calls _ base g t' rv' kv' (H.out.below (below_alloc (Below.refl _ _) _)) (by have := HB.out; have := HBW.out.size; simp; omega) x.f0 x.f1 x.f2 (by have := HF.out; have := this.rows; have := HF.out.kept; have := HL.out; have := HF.out.size; omega)).mono ?_
      rintro e w2 ⟨rfl, hb2, hp⟩
      have hB2 : Below base w w2 := (HBW.out.trans ((below_alloc (Below.refl _ _) _).mono (by have := HB.out; have := HBW.out.size; omega))).trans hb2
      have he : doAll t' ((opl l0).drop n) = (does t' x.f0 x.f1 x.f2).bind fun t'' => doAll t'' ((opl l0).drop (n + 1)) := by rw [HDR.out]; rfl
      cases hd : does t' x.f0 x.f1 x.f2 with
      | none =>
        rw [hd] at he
        have HE := Aside0.mk (HD.out.trans he)
        have HB2 := Aside0.mk hB2
        clear he hd hb2 hp hB2
        simp only [Option.isSome_none]
        go_wp2
        go_ret
        have e : begin_ t (opl l0) = none := by unfold begin_; rw [HE.out]; rfl
        rw [e]
        exact ⟨rfl, HB2.out, fun _ e => by cases e⟩
      | some t2 =>
        rw [hd] at he
        obtain ⟨rv2, kv2, hT2⟩ := hp t2 hd
        have HE := Aside0.mk (HD.out.trans he)
        have HB2 := Aside0.mk hB2
        have HT2 := Aside0.mk hT2
        have HF2 := Aside0.mk (HF.out.step hd)
        clear he hd hb2 hp hB2 hT2
        simp only [Option.isSome_some]
        go_wp2
        go_roundg gk
        case measure => omega
        case rel => exact ⟨n + 1, t2, rv2, kv2, by omega, by go_num, HE, HT2, HB2, HF2⟩
end Go.Proofs.Ytngddlihppomhaa.Cfa
