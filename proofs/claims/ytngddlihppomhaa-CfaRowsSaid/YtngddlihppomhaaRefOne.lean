/- What the reference's One does with its table: what was kept comes back; One as a whole. -/
import Derived.Test.YtngddlihppomhaaRefOps2
namespace Go.Proofs.Ytngddlihppomhaa.CfaR
set_option linter.unusedVariables false
set_option linter.unusedSimpArgs false
open Go.RowKit Go.Proofs.Ytngddlihppomhaa.G Go.Proofs.YtngddlihppomhaaW.PrintWords Go.Proofs.YtngddlihppomhaaW.PrintLast Go.Proofs.YtngddlihppomhaaW.PrintMore Go.Proofs.Ytngddlihppomhaa.Cfa
theorem set_now' {w : World} {g : Nat} {t : T} {rv kv : Value} (hb : w.heap[g]? = some (.cells (cells rv kv t).toArray 79 (0, 0))) (h : t.now.length = 37) (j : Nat) (hj : j < 37) (x : Int) :
    (w.setCell ⟨g, 1 + j, none⟩ (.int .i64 x)).heap[g]? = some (.cells (cells rv kv { t with now := t.now.set j x }).toArray 79 (0, 0)) := by
  refine blk_put hb _ _ ?_
  rw [List.setIfInBounds_toArray, cells, cells, Nat.add_comm, List.set_cons_succ, List.set_append_left _ _ (by rw [nums_length, h]; exact hj)]
  simp [nums, List.map_set]
theorem set_kept' {w : World} {g : Nat} {t : T} {rv kv : Value} (hb : w.heap[g]? = some (.cells (cells rv kv t).toArray 79 (0, 0))) (h : t.now.length = 37) (h2 : t.first.length = 37) (v : Value) (ks : List Row) :
    (w.setCell ⟨g, 75, none⟩ v).heap[g]? = some (.cells (cells rv v { t with kept := ks }).toArray 79 (0, 0)) := by
  refine blk_put hb _ _ ?_
  rw [List.setIfInBounds_toArray, cells, cells, show 75 = 74 + 1 from rfl, List.set_cons_succ, List.set_append_right _ _ (by rw [nums_length, h]; omega), nums_length, h,
    List.set_append_right _ _ (by rw [nums_length, h2]; omega), nums_length, h2]
  rfl
theorem cells_kept' {t : T} {rv kv : Value} (h : t.now.length = 37) (h2 : t.first.length = 37) : (cells rv kv t)[75]? = some kv := by
  rw [cells, show 75 = 74 + 1 from rfl, List.getElem?_cons_succ, List.getElem?_append_right (by rw [nums_length, h]; omega), nums_length, h,
    List.getElem?_append_right (by rw [nums_length, h2]; omega), nums_length, h2]
  rfl
theorem cells_now' {t : T} {rv kv : Value} (h : t.now.length = 37) : (cells rv kv t)[1]? = some (.int .i64 (t.now.getD 0 0)) := by
  rw [cells, show 1 = 0 + 1 from rfl, List.getElem?_cons_succ, List.getElem?_append_left (by rw [nums_length, h]; omega)]
  exact nums_get (by rw [h]; omega)
set_option maxRecDepth 100000 in
theorem one_10n (w : World) (base g : Nat) (t : T) (rv kv : Value) (h : Tab w base g t rv kv) (hb : base ≤ w.heap.size) (r n : Int) (hm : mayF 10 r n = true) (hk : t.kept = []) :
    Calls Try.prog 31 #[.pointer (some ⟨g, 0, none⟩), .agg #[.int .i64 10, .int .i64 r, .int .i64 n], .bool false] w (Post base g w (act t 10 r n)) := by
  have e : act t 10 r n = none := by
    show (if t.kept = [] then none else _) = _
    rw [if_pos hk]
  have HE := Aside0.mk e
  have hk2 := h.kept
  rw [hk] at hk2
  obtain ⟨A, c, rfl⟩ := Kd.R_slice hk2
  clear hk e hk2
  have H0 := Aside0.mk h
  have HM := Aside0.mk hm
  have HB := Aside0.mk hb
  have BX := Aside0.mk (blk_new w (.cells #[.int .i64 10, .int .i64 r, .int .i64 n] 41))
  have HA := Aside0.mk (h.below (below_alloc (Below.refl w.heap.size w) (.cells #[.int .i64 10, .int .i64 r, .int .i64 n] 41)))
  have hg := blk_lt h.blk
  clear h hb hm
  go_enter Try.func31, Try.ntmps31
  go_wp2_with fail
  refine (rmay_calls 10 r n _).mono ?_
  rintro e w1 ⟨rfl, hw1⟩
  rw [HM.out]
  have HG := Aside0.mk (grown_below' (grown_alloc (World.grownBy.refl w (some g)) (.cells #[.int .i64 10, .int .i64 r, .int .i64 n] 41)) hw1)
  have H := Aside0.mk (HA.out.below hw1)
  have hbx := blk_below BX.out hw1
  have o0 : w1.cell? ⟨w.heap.size, 0, none⟩ = some (.int .i64 10) := (blk_cell hbx 0).trans rfl
  have o1 : w1.cell? ⟨w.heap.size, 1, none⟩ = some (.int .i64 r) := (blk_cell hbx 1).trans rfl
  have o2 : w1.cell? ⟨w.heap.size, 2, none⟩ = some (.int .i64 n) := (blk_cell hbx 2).trans rfl
  have HBX := Aside0.mk hbx
  have HB1 := Aside0.mk (show base ≤ w1.heap.size from Nat.le_trans HB.out HG.out.size)
  clear hw1 BX HA hbx
  have f1 := H.out.keptC
  go_wp2
  go_ret
  exact Post.false (below_grown HG.out HB.out H.out.lo) HE.out
set_option maxHeartbeats 1000000 in
set_option maxRecDepth 100000 in
theorem one_10s (w : World) (base g : Nat) (t : T) (rv kv : Value) (h : Tab w base g t rv kv) (hb : base ≤ w.heap.size) (r n : Int) (hm : mayF 10 r n = true) (m : Nat) (hk : t.kept.length = m + 1) (hmm : m ≤ 1000000) :
    Calls Try.prog 31 #[.pointer (some ⟨g, 0, none⟩), .agg #[.int .i64 10, .int .i64 r, .int .i64 n], .bool false] w (Post base g w (act t 10 r n)) := by
  have hne : t.kept ≠ [] := fun e => by rw [e] at hk; cases hk
  have e : act t 10 r n = some { t with now := (t.kept.getLastD []).set 0 (t.now.getD 0 0), kept := t.kept.dropLast } := by
    show (if t.kept = [] then none else _) = _
    rw [if_neg hne]
  have hgd := good_act h.good hm e
  obtain ⟨l, hl⟩ : ∃ l, t.kept.getLastD [] = l := ⟨_, rfl⟩
  have hl37 : l.length = 37 := by rw [← hl]; exact h.good.kept _ (getLastD_mem hne)
  have hK := h.kept
  obtain ⟨A, c, hkv⟩ := Kd.R_slice hK
  rw [hk] at hkv
  subst hkv
  have hrd := Kd.R_reads' hK
  obtain ⟨ad, rfl⟩ : ∃ ad, A = some ad := by
    obtain ⟨ad, e, _⟩ := hrd.2.2.2.2 (by omega)
    exact ⟨ad, e⟩
  obtain ⟨b, rfl⟩ := Kd.R_head hK
  have HRD := Aside0.mk hrd.2.1
  have hmw : IntKind.i64.wrap (m : Int) = m := by rw [IntKind.wrap_i64]; omega
  obtain ⟨x, hx⟩ : ∃ x, t.now.getD 0 0 = x := ⟨_, rfl⟩
  have HX := Aside0.mk hx
  have HGD := Aside0.mk hgd
  have hgd2 : Cfa.Good { t with now := l.set 0 x, kept := t.kept.dropLast } := by rw [← hl, ← hx]; exact hgd
  have HGD2 := Aside0.mk hgd2
  rw [hl, hx] at e
  have HE := Aside0.mk e
  have HL37 := Aside0.mk hl37
  have HL := Aside0.mk hl
  have HKL := Aside0.mk hk
  have hix : ∀ W : World, (Instr.indexAt 44 (.slice (some ⟨b, 0, none⟩) (m + 1) c) (.int .i64 (m : Int))).run Try.prog W = .ok (.pointer (some ⟨b, m * 37, none⟩)) W := fun W => by
    have h2 : Try.prog.elem 44 = 53 := by kernel_rfl
    have h3 : (sizeOf 53).run Try.prog W = .ok 37 W := by kernel_rfl
    rw [run_indexAt_slice (P := Try.prog) W _ _ _ _ _ _ (by rw [h2]; exact Try.underlying44), if_pos (by omega), h2, h3]
    simp only [Result.andThen, Int.toNat_natCast, Addr.add_mid, Nat.zero_add]
  have hsl : ∀ W : World, (Instr.slice 44 (.slice (some ⟨b, 0, none⟩) (m + 1) c) none (some (.int .i64 (m : Int))) none).run Try.prog W = .ok (.slice (some ⟨b, 0, none⟩) m c) W := fun W => by
    obtain ⟨i0, hi, _⟩ := Option.map_eq_some_iff.1 info53
    have := cut_to (P := Try.prog) 44 53 .i64 Try.underlying44 hi (some ⟨b, 0, none⟩) (m + 1) c (m : Int) (by omega) (by omega) HRD.out W
    rwa [Int.toNat_natCast] at this
  have m0 : (((m : Int) + 1) == 0) = false := beq_eq_false_iff_ne.mpr (by omega)
  have HMM := Aside0.mk hmm
  clear hne hK hrd hx hgd hgd2 e hl37 hl hk hmm
  have H0 := Aside0.mk h
  have HM := Aside0.mk hm
  have HB := Aside0.mk hb
  have BX := Aside0.mk (blk_new w (.cells #[.int .i64 10, .int .i64 r, .int .i64 n] 41))
  have HA := Aside0.mk (h.below (below_alloc (Below.refl w.heap.size w) (.cells #[.int .i64 10, .int .i64 r, .int .i64 n] 41)))
  have hg := blk_lt h.blk
  clear h hb hm
  go_enter Try.func31, Try.ntmps31
  go_wp2_with fail
  refine (rmay_calls 10 r n _).mono ?_
  rintro e w1 ⟨rfl, hw1⟩
  rw [HM.out]
  have HG := Aside0.mk (grown_below' (grown_alloc (World.grownBy.refl w (some g)) (.cells #[.int .i64 10, .int .i64 r, .int .i64 n] 41)) hw1)
  have H := Aside0.mk (HA.out.below hw1)
  have hbx := blk_below BX.out hw1
  have o0 : w1.cell? ⟨w.heap.size, 0, none⟩ = some (.int .i64 10) := (blk_cell hbx 0).trans rfl
  have o1 : w1.cell? ⟨w.heap.size, 1, none⟩ = some (.int .i64 r) := (blk_cell hbx 1).trans rfl
  have o2 : w1.cell? ⟨w.heap.size, 2, none⟩ = some (.int .i64 n) := (blk_cell hbx 2).trans rfl
  have HBX := Aside0.mk hbx
  have HB1 := Aside0.mk (show base ≤ w1.heap.size from Nat.le_trans HB.out HG.out.size)
  clear hw1 BX HA hbx
  have hK := H.out.kept
  have hm1 : m < m + 1 := Nat.lt_succ_self m
  have hk := HKL.out
  have hmm := HMM.out
  have hl := HL.out
  obtain ⟨cs, hcl, hM, hcc, hcf⟩ := Kd.R_elem hK ([] : Row) (m : Int) (by omega) (by omega)
  have hlm : t.kept.getD (m : Int).toNat [] = l := by
    rw [Int.toNat_natCast, ← hl, List.getLastD_eq_getLast?, List.getLast?_eq_getElem?, hk, Nat.add_sub_cancel, List.getD_eq_getElem?_getD]
  rw [hlm] at hM
  obtain ⟨_, rfl⟩ := row_K (rowK.K_of_M hM)
  have hra : w1.rangeAt b (m * 37) (nums .i64 l) := fun j v hv => by
    have := hcc j v hv
    rwa [Int.toNat_natCast] at this
  have hbg : b ≠ g := (hK.1 b rfl).1
  have hT := Kd.R_take (m := m) hK (by omega)
  have hdl : t.kept.take m = t.kept.dropLast := by rw [List.dropLast_eq_take, hk, Nat.add_sub_cancel]
  rw [hdl] at hT
  have HRA := Aside0.mk hra
  have HT := Aside0.mk hT
  have hs1 := set_nowAll H.out.blk H.out.good l HL37.out
  have HS1 := Aside0.mk hs1
  have HTH := Aside0.mk (there_of_blk (o := 1) (n := 37) H.out.blk (by rw [List.size_toArray, cells_len H.out.good]; decide))
  have f1 := H.out.keptC
  have f5 : w1.cell? ⟨g, 1, none⟩ = some (.int .i64 x) := by rw [← HX.out]; exact H.out.now 0 (by omega)
  have HGS := Aside0.mk (grown_setCells w1 g 1 (nums .i64 l))
  clear hK hk hmm hl hm1 hcl hM hcc hcf hlm hra hT hdl hs1
  go_wp2_with (first
    | ((with_reducible refine gate_dst (N := 213) rfl ?_); refine load_rowW rowTy rfl (.tmp 212) rfl b (m * 37) rfl l HL37.out HRA.out ?_)
    | ((with_reducible refine gate_store (p := 215) rfl ?_); refine store_rowW rowTy rfl (.tmp 215) (.tmp 213) rfl g 1 l HL37.out rfl rfl HTH.out ?_
       generalize w1.setCells g 1 (nums .i64 l) = w2 at HS1 HGS ⊢
       have q1 : w2.cell? ⟨g, 75, none⟩ = some (.slice (some ⟨b, 0, none⟩) (m + 1) c) := by rw [blk_cell HS1.out, List.getElem?_toArray]; exact cells_kept' HL37.out H.out.good.first
       have q2 := blk_frozen HS1.out 75
       have q3 : w2.cell? ⟨g, 1, none⟩ = some (.int .i64 (l.getD 0 0)) := by rw [blk_cell HS1.out, List.getElem?_toArray]; exact cells_now' HL37.out
       have q4 := blk_frozen HS1.out 1))
  go_ret
  have s1 := set_now' HS1.out HL37.out 0 (by omega) x
  have s2 := set_kept' s1 (by rw [List.length_set]; exact HL37.out) H.out.good.first (.slice (some ⟨b, 0, none⟩) m c) t.kept.dropLast
  have hgr : w1.grownBy ((w2.setCell ⟨g, 1, none⟩ (.int .i64 x)).setCell ⟨g, 75, none⟩ (.slice (some ⟨b, 0, none⟩) m c)) (some g) := grown_set' (grown_set' HGS.out _ _) _ _
  rw [HE.out]
  refine ⟨rfl, below_grown (World.grownBy.trans HG.out hgr) HB.out H.out.lo, fun t' e2 => ?_⟩
  cases e2
  exact ⟨_, _, HGD2.out, H.out.lo, s2, Kd.R_grown H.out.rows hgr (fun k hk e => hk.1 (Option.some.inj e)), Kd.R_grown HT.out hgr (fun k hk e => hk.1 (Option.some.inj e))⟩
theorem may_kind {k r n : Int} (h : mayF k r n = true) : k = 0 ∨ k = 1 ∨ k = 2 ∨ k = 3 ∨ k = 4 ∨ k = 5 ∨ k = 6 ∨ k = 7 ∨ k = 8 ∨ k = 9 ∨ k = 10 := by
  unfold mayF at h
  by_cases c0 : k = 0 ∨ k = 9 ∨ k = 10
  · omega
  rw [if_neg c0] at h
  by_cases c1 : k = 1 ∨ k = 3
  · omega
  rw [if_neg c1] at h
  by_cases c2 : k = 2
  · omega
  rw [if_neg c2] at h
  by_cases c4 : k = 4 ∨ k = 6 ∨ k = 7 ∨ k = 8
  · omega
  rw [if_neg c4] at h
  by_cases c5 : k = 5
  · omega
  rw [if_neg c5] at h
  cases h
theorem one_calls (w : World) (base g : Nat) (t : T) (rv kv : Value) (h : Tab w base g t rv kv) (hb : base ≤ w.heap.size) (k r n : Int) (b : Bool) (hbg : t.begun = !b) (hr : t.rows.length ≤ 1000000) (hk : t.kept.length ≤ 1000000) (hs : 0 ≤ t.size) :
    Calls Try.prog 31 #[.pointer (some ⟨g, 0, none⟩), .agg #[.int .i64 k, .int .i64 r, .int .i64 n], .bool b] w (Post base g w (does t k r n)) := by
  unfold does
  cases hm : mayF k r n with
  | false =>
    rw [if_pos rfl]
    exact one_bad w base g hb k r n b hm
  | true =>
    rw [if_neg (by decide)]
    cases b with
    | true =>
      by_cases hq : k = 1 ∨ k = 9 ∨ k = 10 ∨ k = 6
      · rw [if_pos ⟨by rw [hbg]; rfl, hq⟩]
        exact one_early w base g hb k r n hm hq
      · rw [if_neg (fun h => hq h.2)]
        rcases may_kind hm with rfl | rfl | rfl | rfl | rfl | rfl | rfl | rfl | rfl | rfl | rfl
        · exact one_0 w base g t rv kv h hb r n true hm
        · exact absurd (Or.inl rfl) hq
        · exact one_2 w base g t rv kv h hb r n true hm
        · exact one_3 w base g t rv kv h hb r n true hm
        · exact one_4 w base g t rv kv h hb r n true hm
        · exact one_5 w base g t rv kv h hb r n true hm
        · exact absurd (Or.inr (Or.inr (Or.inr rfl))) hq
        · exact one_7 w base g t rv kv h hb r n true hm
        · exact one_8 w base g t rv kv h hb r n true hm
        · exact absurd (Or.inr (Or.inl rfl)) hq
        · exact absurd (Or.inr (Or.inr (Or.inl rfl))) hq
    | false =>
      rw [if_neg (fun h => by rw [hbg] at h; exact absurd h.1 (by decide))]
      rcases may_kind hm with rfl | rfl | rfl | rfl | rfl | rfl | rfl | rfl | rfl | rfl | rfl
      · exact one_0 w base g t rv kv h hb r n false hm
      · by_cases hn : n = 0
        · subst hn
          exact one_1z w base g t rv kv h hb r hm hs
        · exact one_1 w base g t rv kv h hb r n hm hn hr hs
      · exact one_2 w base g t rv kv h hb r n false hm
      · exact one_3 w base g t rv kv h hb r n false hm
      · exact one_4 w base g t rv kv h hb r n false hm
      · exact one_5 w base g t rv kv h hb r n false hm
      · exact one_6 w base g t rv kv h hb r n hm
      · exact one_7 w base g t rv kv h hb r n false hm
      · exact one_8 w base g t rv kv h hb r n false hm
      · exact one_9 w base g t rv kv h hb r n hm hk
      · rcases Nat.eq_zero_or_pos t.kept.length with h0 | h0
        · exact one_10n w base g t rv kv h hb r n hm (List.eq_nil_of_length_eq_zero h0)
        · obtain ⟨m, e⟩ : ∃ m, t.kept.length = m + 1 := ⟨t.kept.length - 1, by omega⟩
          exact one_10s w base g t rv kv h hb r n hm m e (by omega)
end Go.Proofs.Ytngddlihppomhaa.CfaR
