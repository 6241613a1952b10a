/- Lemmas and contracts, one text behind the other: what the row of this claim needs; no conditions beyond those that each theorem names. -/
import Derived.Outline
import Derived.StillTailTactics
import Derived.Deep.LoopGhost
import Derived.Test.YtibkcnlcmempgaaVJ1
section
namespace Go.Proofs.Ytibkcnlcmempgaa.Res
set_option linter.unusedVariables false
set_option linter.unusedSimpArgs false
open Go.RowKit Go.Proofs.Ytibkcnlcmempgaa.G Go.Proofs.YtibkcnlcmempgaaW.PrintWords Go.Proofs.YtibkcnlcmempgaaW.PrintLast Go.Proofs.YtibkcnlcmempgaaW.PrintMore Go.Proofs.Ytibkcnlcmempgaa.Raw
theorem sec_fin {w3 : World} {base g gt : Nat} {F : Nat → Prop} {tb : List (Key × Knd)} {s : S72} {i : Nat} {m : Knd} (hn : (tb.map (·.1)).Nodup) (h : TabK w3 base g F (encT encK (ofT zK s.f0.data.toList tb)) (some gt)) (hi : (ofT zK s.f0.data.toList tb)[i]? = some (s.f0.data.toList, m)) (l : List (Nat × Value)) (hs : sets (encK m) l = encK (kndF s m)) (hl : ∀ p ∈ l, p.1 < 4 ∧ p.2.oneCell' = true) :
    TabK (puts gt (i * 4) l w3) base g F (encT encK (stepSec s tb)) (some gt) ∧ Kept w3 (puts gt (i * 4) l w3) F ∧ Below base w3 (puts gt (i * 4) l w3) := by
  have hi2 := encT_get encK _ _ _ hi
  obtain ⟨h1, h2, h3⟩ := tab_puts (by decide) h (by decide) i _ _ hi2 l hl
  rw [hs, encT_set, upT_set _ _ _ (ofT_nodup _ _ _ hn) i m hi] at h1
  exact ⟨h1, h2, h3⟩
theorem kind_facts {w : World} {base g gt : Nat} {F : Nat → Prop} {tb : List (Key × Knd)} (h : TabK w base g F (encT encK tb) (some gt)) (i : Nat) (key : Key) (m : Knd) (hi : tb[i]? = some (key, m)) :
    gt < w.heap.size ∧ (∀ j u, (encK m)[j]? = some u → w.cell? ⟨gt, i * 4 + j, none⟩ = some u) ∧ (∀ j, w.frozen? ⟨gt, i * 4 + j, none⟩ = false) ∧ F gt := by
  obtain ⟨m0, sn, st, hb, hg, hF, hm, hn, ht, hd, ho⟩ := h
  have hit : i < tb.length := (List.getElem?_eq_some_iff.1 hi).1
  have hlen : (encT encK tb).length = tb.length := by simp [encT]
  obtain ⟨gt', cap, rfl, hgb, hgs⟩ := Kd.R_form ht (by simp; omega)
  have hgg : gt' = gt := by simpa [Value.ownBlock] using ho
  subst hgg
  have hget : ((encT encK tb).map (·.2)).getD i [] = encK m := by
    rw [List.getD_eq_getElem?_getD, List.getElem?_map, encT_get _ _ _ _ hi]
    rfl
  have h1 := raw_cell ht i (by simp; omega)
  rw [hget] at h1
  exact ⟨hgs.1, h1.2.1, h1.2.2, ht.1 _ (by simp [Value.ownBlock])⟩
set_option maxHeartbeats 8000000 in
set_option maxRecDepth 100000 in
theorem gather_calls (A : Option Addr) (c : Nat) (l : List S36) (w : World) (hr : Kd.C k36 w A l.length l) (hc : l.length ≤ c) (hf : Fits l) :
    Calls Try.prog 21 #[.slice A l.length c] w fun e w' => ∃ g1 g2, e = .returned (.tuple #[.pointer (some ⟨g1, 0, none⟩), .pointer (some ⟨g2, 0, none⟩)]) ∧ GI (fun _ => False) w.heap.size g1 g2 w w' (namesAt l l.length) (kindsAt l l.length) := by
  have HR := Aside0.mk hr
  have HF := Aside0.mk hf
  have hl16 : l.length ≤ 16 := hf.1
  have GS := Aside0.mk (gi_start w)
  clear hr hf
  go_enter Try.func21, Try.ntmps21
  go_wp2
  go_loopg [19] l.length (fun kq v19 wr => ∃ n : Nat, n + kq = l.length ∧ v19 = .int .i64 (n : Int) ∧ Aside0 (GI (fun _ => False) w.heap.size w.heap.size (w.heap.size + 1) w wr (namesAt l n) (kindsAt l n)))
  case atStart => exact ⟨0, by omega, rfl, GS⟩
  case round =>
    clear GS
    obtain ⟨n, hn, rfl, HG⟩ := hrel
    cases gk with
    | zero =>
      have hltb : decide ((n : Int) < (l.length : Int)) = false := by simp; omega
      have : n = l.length := by omega
      subst this
      go_wp2
      go_ret2
      exact ⟨_, _, rfl, HG.out⟩
    | succ gko =>
      have hltb : decide ((n : Int) < (l.length : Int)) = true := by simp; omega
      obtain ⟨wo, rfl⟩ : ∃ wo : World, wo = wr := ⟨_, rfl⟩
      obtain ⟨ad, A0, c0, A1, c1, rfl, hx0, hx1, hl0, hk0, hl1, hk1⟩ := at_T36 HR.out (n : Int) (by omega) (by omega)
      rw [Int.toNat_natCast] at hx0 hx1
      replace hx0 := (HG.out.lt.2.cell (World.block_lt_of_cell? w _ hx0)).trans hx0
      replace hx1 := (HG.out.lt.2.cell (World.block_lt_of_cell? w _ hx1)).trans hx1
      obtain ⟨hs1, hs0, hsz1, hsz0⟩ := HF.out.2 n (by omega)
      have hsn := namesAt_succ l n
      have hsk := kindsAt_succ l n
      obtain ⟨f, hfe⟩ : ∃ f, f = rd_T36 l (n : Int) := ⟨_, rfl⟩
      rw [← hfe] at hx0 hx1 hl0 hk0 hl1 hk1 hs1 hs0 hsz1 hsz0 hsn hsk
      have HNX := Aside0.mk (And.intro hsn hsk)
      have HK0 := Aside0.mk hk0
      have HK1 := Aside0.mk hk1
      have HZ1 := Aside0.mk hsz1
      have HZ0 := Aside0.mk hsz0
      have HSM := Aside0.mk (And.intro (small_names l HF.out n (by omega)) (small_kinds l HF.out n (by omega)))
      have hn15 : n ≤ 15 := by omega
      clear hfe hk0 hk1 hsz1 hsz0 hsn hsk
      go_wp2
      have hG1 := (HG.out.keep (below_alloc (Below.refl wo.heap.size wo) (.cells #[.slice A0 f.f0.length c0, .slice A1 f.f1.length c1] 36))).drop (keep' := fun j => j = wo.heap.size) (fun j hj => .inr (Nat.le_of_eq hj.symm))
      have hB1 := blk_new wo (.cells #[.slice A0 f.f0.length c0, .slice A1 f.f1.length c1] 36)
      generalize wo.alloc (.cells #[.slice A0 f.f0.length c0, .slice A1 f.f1.length c1] 36) = w1 at hG1 hB1 ⊢
      have HG1 := Aside0.mk hG1
      have HB1 := Aside0.mk hB1
      generalize wo.heap.size = gf at hG1 hB1 HG1 HB1 ⊢
      clear hG1 hB1 HG hx0 hx1
      have hltn : decide (n < l.length) = true := by simp; omega
      rw [hltn]
      clear hltn
      go_loopg [27] f.f1.length (fun kq v27 wr => ∃ k : Nat, k + kq = f.f1.length ∧ v27 = .int .i64 (k : Int) ∧ Aside0 (GI (fun j => j = gf) w.heap.size w.heap.size (w.heap.size + 1) w wr (symsAt n f.f1 k (namesAt l n)) (kindsAt l n)) ∧ Aside0 (wr.heap[gf]? = some (.cells #[.slice A0 f.f0.length c0, .slice A1 f.f1.length c1] 36 (0, 0))))
      case atStart => exact ⟨0, by omega, rfl, HG1, HB1⟩
      case round =>
        clear HG1 HB1
        obtain ⟨k, hk, rfl, HG, HB⟩ := hrel
        cases gk with
        | succ gk =>
          have hkb : decide ((k : Int) < (f.f1.length : Int)) = true := by simp; omega
          obtain ⟨ad2, rfl, y0, y1, y2, y3, y4, y5⟩ := at_T38 HK1.out (k : Int) (by omega) (by omega)
          rw [Int.toNat_natCast] at y0 y1 y2 y3 y4 y5
          replace y0 := (HG.out.lt.2.cell (World.block_lt_of_cell? w _ y0)).trans y0
          replace y1 := (HG.out.lt.2.cell (World.block_lt_of_cell? w _ y1)).trans y1
          replace y2 := (HG.out.lt.2.cell (World.block_lt_of_cell? w _ y2)).trans y2
          replace y3 := (HG.out.lt.2.cell (World.block_lt_of_cell? w _ y3)).trans y3
          replace y4 := (HG.out.lt.2.cell (World.block_lt_of_cell? w _ y4)).trans y4
          replace y5 := (HG.out.lt.2.cell (World.block_lt_of_cell? w _ y5)).trans y5
          have hsz := HZ1.out k (by omega)
          have hss := symsAt_succ n f.f1 k (namesAt l n)
          obtain ⟨s, hse⟩ : ∃ s, s = rd_T38 f.f1 (k : Int) := ⟨_, rfl⟩
          rw [← hse] at y0 y1 y2 y3 y4 y5 hsz hss
          have HSS := Aside0.mk hss
          have hsm := small_syms HSM.out.1 n f.f1 k
          obtain ⟨tb1, htb1⟩ : ∃ tb1, tb1 = symsAt n f.f1 k (namesAt l n) := ⟨_, rfl⟩
          rw [← htb1] at HG HSS hsm
          have HSM1 := Aside0.mk hsm
          clear hse hss hsm htb1
          have hgl : gf < wr.heap.size := blk_lt HB.out
          by_cases hb : s.f4 = 0
          · have hbb : (s.f4 != 0) = false := bne_eq_false_iff_eq.mpr hb
            have HE := Aside0.mk (show stepSym n k s tb1 = tb1 from if_pos hb)
            clear hb
            go_wp2
            go_roundg gk
            case measure => omega
            case rel => exact ⟨k + 1, by omega, by go_num, ⟨by rw [HSS.out, HE.out]; exact HG.out.below (below_alloc (Below.refl _ _) _)⟩, ⟨blk_alloc HB.out _⟩⟩
          · have hbb : (s.f4 != 0) = true := bne_iff_ne.mpr hb
            have HE := Aside0.mk (show stepSym n k s tb1 = upT s.f0.data.toList (fun m => meet2 (meet1 m s n k) s.f5) (ofT zM s.f0.data.toList tb1) from if_neg hb)
            clear hb
            go_wp2
            have hG2 := HG.out.below (below_alloc (Below.refl wr.heap.size wr) (.cells (symCells s) 38))
            have hb2 := blk_new wr (.cells (symCells s) 38)
            have hb3 := blk_alloc HB.out (.cells (symCells s) 38)
            have hbf : (wr.alloc (.cells (symCells s) 38)).heap.size = wr.heap.size + 1 := by simp
            obtain ⟨F1, F2, o1, o2, h1, h2, h3, h4, h5⟩ := HG.out
            have l1 : ¬ F1 wr.heap.size := by
              obtain ⟨m0, sn, st, hb, hg, hF, _⟩ := h1
              exact fun hj => by have := (hF _ hj).2; omega
            have h1' := h1.below (below_alloc (Below.refl wr.heap.size wr) (.cells (symCells s) 38))
            have h2' := h2.below (below_alloc (Below.refl wr.heap.size wr) (.cells (symCells s) 38))
            have h5' := below_then h5 HG.out.lt.1 (below_alloc (Below.refl wr.heap.size wr) (.cells (symCells s) 38))
            rw [show (#[Value.string s.f0, Value.string s.f1, Value.int .i64 s.f2, Value.int .i64 s.f3, Value.int .i64 s.f4, Value.int .i64 s.f5] : Array Value) = symCells s from rfl]
            generalize wr.alloc (.cells (symCells s) 38) = w2 at hG2 hb2 hb3 hbf h1' h2' h5' ⊢
            have HA := Aside0.mk (And.intro h1' (And.intro h2' (And.intro h3 (And.intro h4 h5'))))
            have HB2 := Aside0.mk hb3
            have HL := Aside0.mk (And.intro l1 hbf)
            have hgl2 : gf < w2.heap.size := by omega
            clear h1 h2 h3 h4 h5 h1' h2' h5' hG2 hb3 l1 hbf y0 y1 y2 y3 y4 y5 HG HB
            generalize wr.heap.size = gs at HL hb2 hgl ⊢
            refine start_ (n := 8) (S := fun u => u.heap[gs]? = some (.cells (symCells s) 38 (0, 0))) (ds := [7]) #[false, false, false, false, false, false, false, false] (by kernel_rfl) rfl rfl ?_ (fun hHeld => ?_)
            case refine_1 => exact hb2
            refine pure_ (i := 0) (N := some 35) (v := ?_) (a' := ?_) #[true, false, false, false, false, false, false, false] rfl rfl (by kernel_rfl) (fun _ _ _ h => h) (Or.inl ⟨by rfl, ?_⟩) ?_ ?_
            rotate_left
            · intro u
              go_simp
              with_reducible rfl
            rotate_left
            · simp only [Act.put, List.setIfInBounds_toArray, List.set_cons_zero, List.set_cons_succ, i64_w, i32_w]
              rfl
            refine pure_ (i := 1) (N := some 36) (v := ?_) (a' := ?_) #[true, true, false, false, false, false, false, false] rfl rfl (by kernel_rfl) (fun _ _ _ h => h) (Or.inl ⟨by rfl, ?_⟩) ?_ ?_
            rotate_left
            · intro u
              go_simp
              with_reducible rfl
            rotate_left
            · simp only [Act.put, List.setIfInBounds_toArray, List.set_cons_zero, List.set_cons_succ, i64_w, i32_w]
              rfl
            refine take_ (i := 2) (N := some 37) (v := ?_) (a' := ?_) #[true, true, true, false, false, false, false, false] rfl rfl (by kernel_rfl) (fun _ _ _ h => h) (Or.inl ⟨by rfl, ?_⟩) hHeld ?_ ?_
            rotate_left
            · rintro u hs0
              have q0 : u.cell? ⟨gs, 0, none⟩ = some (.string s.f0) := (blk_cell hs0 0).trans rfl
              have q1 : u.cell? ⟨gs, 1, none⟩ = some (.string s.f1) := (blk_cell hs0 1).trans rfl
              have q2 : u.cell? ⟨gs, 2, none⟩ = some (.int .i64 s.f2) := (blk_cell hs0 2).trans rfl
              have q3 : u.cell? ⟨gs, 3, none⟩ = some (.int .i64 s.f3) := (blk_cell hs0 3).trans rfl
              have q4 : u.cell? ⟨gs, 4, none⟩ = some (.int .i64 s.f4) := (blk_cell hs0 4).trans rfl
              have q5 : u.cell? ⟨gs, 5, none⟩ = some (.int .i64 s.f5) := (blk_cell hs0 5).trans rfl
              go_simp
              with_reducible rfl
            rotate_left
            · simp only [Act.put, List.setIfInBounds_toArray, List.set_cons_zero, List.set_cons_succ, i64_w, i32_w]
              rfl
            refine take_ (i := 4) (N := some 39) (v := ?_) (a' := ?_) #[true, true, true, false, true, false, false, false] rfl rfl (by kernel_rfl) (fun _ _ _ h => h) (Or.inl ⟨by rfl, ?_⟩) hHeld ?_ ?_
            rotate_left
            · rintro u hs0
              have q0 : u.cell? ⟨gs, 0, none⟩ = some (.string s.f0) := (blk_cell hs0 0).trans rfl
              have q1 : u.cell? ⟨gs, 1, none⟩ = some (.string s.f1) := (blk_cell hs0 1).trans rfl
              have q2 : u.cell? ⟨gs, 2, none⟩ = some (.int .i64 s.f2) := (blk_cell hs0 2).trans rfl
              have q3 : u.cell? ⟨gs, 3, none⟩ = some (.int .i64 s.f3) := (blk_cell hs0 3).trans rfl
              have q4 : u.cell? ⟨gs, 4, none⟩ = some (.int .i64 s.f4) := (blk_cell hs0 4).trans rfl
              have q5 : u.cell? ⟨gs, 5, none⟩ = some (.int .i64 s.f5) := (blk_cell hs0 5).trans rfl
              go_simp
              with_reducible rfl
            rotate_left
            · simp only [Act.put, List.setIfInBounds_toArray, List.set_cons_zero, List.set_cons_succ, i64_w, i32_w]
              rfl
            refine pure_ (i := 5) (N := some 40) (v := ?_) (a' := ?_) #[true, true, true, false, true, true, false, false] rfl rfl (by kernel_rfl) (fun _ _ _ h => h) (Or.inl ⟨by rfl, ?_⟩) ?_ ?_
            rotate_left
            · intro u
              go_simp
              with_reducible rfl
            rotate_left
            · simp only [Act.put, List.setIfInBounds_toArray, List.set_cons_zero, List.set_cons_succ, i64_w, i32_w]
              rfl
            refine pure_ (i := 6) (N := some 41) (v := ?_) (a' := ?_) #[true, true, true, false, true, true, true, false] rfl rfl (by kernel_rfl) (fun _ _ _ h => h) (Or.inl ⟨by rfl, ?_⟩) ?_ ?_
            rotate_left
            · intro u
              go_simp
              with_reducible rfl
            rotate_left
            · simp only [Act.put, List.setIfInBounds_toArray, List.set_cons_zero, List.set_cons_succ, i64_w, i32_w]
              rfl
            refine one_ (i := 3) (N := some 38) #[true, true, true, true, true, true, true, false] rfl rfl (by kernel_rfl) (by decide) (fun K hK => ?_)
            refine goes_ Try.func24 (by kernel_rfl) rfl #[.pointer (some ⟨w.heap.size, 0, none⟩), .string s.f0] (by rfl) rfl rfl (by (try simp only [List.map_toArray, List.map_cons, List.map_nil]); first | done | rfl) ?_
            refine (ofM_calls _ w.heap.size w.heap.size F1 tb1 o1 (HA.out.1.below (below_drew (Below.refl _ _))) (by have := HSM1.out.1; omega) s.f0 hsz).mono ?_
            rintro e w3 ⟨gt, F1', i, m, rfl, hi, hT, hF', hK3, hB3⟩
            refine ⟨_, rfl, ?_⟩
            have hb3 : w3.heap[gs]? = some (.cells (symCells s) 38 (0, 0)) := blk_kept hHeld hK3 HL.out.1
            have HC := Aside0.mk (And.intro hi (And.intro hT (And.intro hF' (And.intro hK3 hB3))))
            clear hi hT hF' hK3 hB3 hHeld
            refine hK.out _ _ hb3 (fun hHeld => ?_)
            clear hK K
            refine norm_ (a' := ?_) ?_ ?_
            rotate_left
            · show Act.put _ (some 38) _ = _
              simp only [Act.put, List.setIfInBounds_toArray, List.set_cons_zero, List.set_cons_succ, i64_w, i32_w]
              rfl
            refine last_ (i := 7) (N := some 42) #[true, true, true, true, true, true, true, true] rfl rfl (by kernel_rfl) (by decide) (fun K hK => ?_)
            refine goes_ Try.func33 (by kernel_rfl) rfl #[.pointer (some ⟨gt, i * 15, none⟩), .agg (symCells s), .int .i64 (n : Int), .int .i64 (k : Int)] (by rfl) rfl rfl (by (try simp only [List.map_toArray, List.map_cons, List.map_nil]); first | done | rfl) ?_
            have hbm : (0 ≤ m.strong ∧ m.strong ≤ ((2000 * n + k + 1 : Nat) : Int)) ∧ (0 ≤ m.weak ∧ m.weak ≤ ((2000 * n + k + 1 : Nat) : Int)) ∧ (0 ≤ m.needed ∧ m.needed ≤ ((2000 * n + k + 1 : Nat) : Int)) := ((HSM1.out.of s.f0.data.toList).2.2 _ (List.mem_of_getElem? HC.out.1))
            refine (meet_calls _ w.heap.size w.heap.size gt F1' _ HC.out.2.1 i _ m (encT_get _ _ _ _ HC.out.1) s n k ⟨hbm.1.1, by omega⟩ ⟨hbm.2.1.1, by omega⟩ ⟨hbm.2.2.1, by omega⟩).mono ?_
            rintro e w4 ⟨rfl, hT4, hK4, hB4⟩
            refine ⟨_, rfl, ?_⟩
            rw [encT_set, upT_set _ (fun m => meet2 (meet1 m s n k) s.f5) _ (ofT_nodup _ _ _ HSM1.out.2.1) i m HC.out.1] at hT4
            obtain ⟨hi, hT, hF', hK3, hB3⟩ := HC.out
            have hK5 : Kept w2 w4 F1 := hK3.then_ hK4 (fun j hj => hF' j hj)
            have hG5 : GI (fun j => j = gf) w.heap.size w.heap.size (w.heap.size + 1) w w4 (stepSym n k s tb1) (kindsAt l n) := by
              rw [HE.out]
              exact GI.names HA.out.2.1 HA.out.2.2.1 HA.out.2.2.2.1 HA.out.2.2.2.2 (fun j hj => by rw [hj]; exact hgl2) hT4 hF' hK5 (Below.trans (show Below w.heap.size w2 w3 from ⟨hB3.os, hB3.tape, hB3.output, hB3.size, hB3.block⟩) hB4)
            have HG5 := Aside0.mk hG5
            have HB5 := Aside0.mk (blk_kept HB2.out hK5 (fun e => (HA.out.2.2.1 gf e).2 rfl))
            clear hT4 hK4 hB4 hi hT hF' hK3 hB3 hK5 hG5 hbm hHeld hb3 HC
            refine hK.out _ _ ?_
            clear hK K
            refine done_ (by kernel_rfl) ?_
            go_wp2
            go_roundg gk
            case measure => omega
            case rel => exact ⟨k + 1, by omega, by go_num, ⟨by rw [HSS.out]; exact HG5.out⟩, HB5⟩
        | zero =>
          have hkb : decide ((k : Int) < (f.f1.length : Int)) = false := by simp; omega
          have hke : k = f.f1.length := by omega
          subst hke
          have hd0 : wr.cell? ⟨gf, 0, none⟩ = some (.slice A0 f.f0.length c0) := (blk_cell HB.out 0).trans rfl
          go_wp2
          have hlkk : decide (f.f1.length < f.f1.length) = false := by simp
          have HSM2 := Aside0.mk (small_secs HSM.out.2 f.f0 0)
          go_loopg [47] f.f0.length (fun kq v47 wr => ∃ k : Nat, k + kq = f.f0.length ∧ v47 = .int .i64 (k : Int) ∧ Aside0 (GI (fun _ => False) w.heap.size w.heap.size (w.heap.size + 1) w wr (symsAt n f.f1 f.f1.length (namesAt l n)) (secsAt f.f0 k (kindsAt l n))))
          case atStart => exact ⟨0, by omega, rfl, ⟨HG.out.drop (fun _ h => h.elim)⟩⟩
          case round =>
            clear HG HB hd0 HSM2
            obtain ⟨k, hk, rfl, HG⟩ := hrel
            cases gk with
            | zero =>
              have hkb : decide ((k : Int) < (f.f0.length : Int)) = false := by simp; omega
              have hke : k = f.f0.length := by omega
              subst hke
              go_wp2
              go_roundg gko
              case measure => omega
              case rel => exact ⟨n + 1, by omega, by go_num, ⟨by rw [HNX.out.1, HNX.out.2]; exact HG.out⟩⟩
            | succ gk =>
              have hkb : decide ((k : Int) < (f.f0.length : Int)) = true := by simp; omega
              obtain ⟨ad2, A4, c4, A6, c6, rfl, y0, y1, y2, y3, y4, y5, y6, _, _, _, _⟩ := at_T72 HK0.out (k : Int) (by omega) (by omega)
              rw [Int.toNat_natCast] at y0 y1 y2 y3 y4 y5 y6
              replace y0 := (HG.out.lt.2.cell (World.block_lt_of_cell? w _ y0)).trans y0
              replace y1 := (HG.out.lt.2.cell (World.block_lt_of_cell? w _ y1)).trans y1
              replace y2 := (HG.out.lt.2.cell (World.block_lt_of_cell? w _ y2)).trans y2
              replace y3 := (HG.out.lt.2.cell (World.block_lt_of_cell? w _ y3)).trans y3
              replace y4 := (HG.out.lt.2.cell (World.block_lt_of_cell? w _ y4)).trans y4
              replace y5 := (HG.out.lt.2.cell (World.block_lt_of_cell? w _ y5)).trans y5
              replace y6 := (HG.out.lt.2.cell (World.block_lt_of_cell? w _ y6)).trans y6
              have hsz := HZ0.out k (by omega)
              have hss := secsAt_succ f.f0 k (kindsAt l n)
              obtain ⟨s, hse⟩ : ∃ s, s = rd_T72 f.f0 (k : Int) := ⟨_, rfl⟩
              rw [← hse] at y0 y1 y2 y3 y4 y5 y6 hsz hss
              have HSS := Aside0.mk hss
              have hsm := small_secs HSM.out.2 f.f0 k
              obtain ⟨tb2, htb2⟩ : ∃ tb2, tb2 = secsAt f.f0 k (kindsAt l n) := ⟨_, rfl⟩
              rw [← htb2] at HG HSS hsm
              have HSM1 := Aside0.mk hsm
              clear hse hss hsm htb2
              go_wp2_with fail
              have hb2 := blk_new wr (.cells #[.string s.f0, .int .i64 s.f1, .int .i64 s.f2, .int .i64 s.f3, .slice A4 s.f4.length c4, .int .i64 s.f5, .slice A6 s.f6.length c6] 72)
              obtain ⟨F1, F2, o1, o2, h1, h2, h3, h4, h5⟩ := HG.out
              have hgw := HG.out.lt.1
              have l2 : ¬ F2 wr.heap.size := by
                obtain ⟨m0, sn, st, hb, hg, hF, _⟩ := h2
                exact fun hj => by have := (hF _ hj).2; omega
              have hbelow := below_alloc (Below.refl wr.heap.size wr) (.cells #[.string s.f0, .int .i64 s.f1, .int .i64 s.f2, .int .i64 s.f3, .slice A4 s.f4.length c4, .int .i64 s.f5, .slice A6 s.f6.length c6] 72)
              have h1' := h1.below hbelow
              have h2' := h2.below hbelow
              have h5' := below_then h5 hgw hbelow
              refine (ofK_calls _ w.heap.size (w.heap.size + 1) F2 tb2 o2 h2' (by have := HSM1.out.1; omega) s.f0 hsz).mono ?_
              rintro e w3 ⟨gt, F2', i, m, rfl, hi, hT, hF', hK3, hB3⟩
              obtain ⟨hgt, hcs, hfz, hFgt⟩ := kind_facts hT i _ m hi
              have hgs : gt ≠ wr.heap.size := by
                rintro rfl
                rcases hF' _ hFgt with h | h
                · exact l2 h
                · simp at h
                  omega
              have hbs3 : w3.heap[wr.heap.size]? = some (.cells #[.string s.f0, .int .i64 s.f1, .int .i64 s.f2, .int .i64 s.f3, .slice A4 s.f4.length c4, .int .i64 s.f5, .slice A6 s.f6.length c6] 72 (0, 0)) := blk_kept hb2 hK3 l2
              have sec : ∀ (l' : List (Nat × Value)), sets (encK m) l' = encK (kndF s m) → (∀ p ∈ l', p.1 < 4 ∧ p.2.oneCell' = true) → GI (fun _ => False) w.heap.size w.heap.size (w.heap.size + 1) w (puts gt (i * 4) l' w3) (symsAt n f.f1 f.f1.length (namesAt l n)) (secsAt f.f0 (k + 1) (kindsAt l n)) := by
                intro l' hs hl
                obtain ⟨hT9, hK9, hB9⟩ := sec_fin HSM1.out.2 hT hi l' hs hl
                rw [HSS.out]
                exact GI.kinds h1' h3 h4 h5' (fun _ hj => hj.elim) hT9 hF' (hK3.then_ hK9 hF') (hB3.trans hB9)
              have SEC := Aside0.mk sec
              have HSM3 := Aside0.mk (And.intro hT hi)
              have d0 : w3.cell? ⟨gt, i * 4, none⟩ = some (.bool m.some) := hcs 0 _ rfl
              have d1 : w3.cell? ⟨gt, i * 4 + 1, none⟩ = some (.bool m.clash) := hcs 1 _ rfl
              have d2 : w3.cell? ⟨gt, i * 4 + 2, none⟩ = some (.int .i64 m.typ) := hcs 2 _ rfl
              have d3 : w3.cell? ⟨gt, i * 4 + 3, none⟩ = some (.int .i64 m.flags) := hcs 3 _ rfl
              have e0 : w3.frozen? ⟨gt, i * 4, none⟩ = false := hfz 0
              have e1 := hfz 1
              have e2 := hfz 2
              have e3 := hfz 3
              have HGS := Aside0.mk hgs.symm
              clear sec hT hi hF' hK3 hB3 hcs hfz hFgt h1 h2 h3 h4 h5 h1' h2' h5' hbelow hb2 l2 hgw HG hgt y0 y1 y2 y3 y4 y5 y6
              generalize wr.heap.size = gs at hbs3 hgs HGS ⊢
              have z1 : w3.cell? ⟨gs, 1, none⟩ = some (.int .i64 s.f1) := (blk_cell hbs3 1).trans rfl
              have z2 : w3.cell? ⟨gs, 2, none⟩ = some (.int .i64 s.f2) := (blk_cell hbs3 2).trans rfl
              obtain ⟨so, hso⟩ : ∃ so, so = m.some := ⟨_, rfl⟩
              obtain ⟨cl, hcl⟩ : ∃ cl, cl = m.clash := ⟨_, rfl⟩
              rw [← hso] at d0
              rw [← hcl] at d1
              have HV0 := Aside0.mk (And.intro hso hcl)
              clear hso hcl
              cases so with
              | true =>
                cases cl with
                | true =>
                  have HV := Aside0.mk (show kndF s m = { m with clash := true } from by unfold kndF; rw [← HV0.out.1, ← HV0.out.2]; simp)
                  go_wp2
                  refine start_ (n := 32) (S := fun u => u.cell? ⟨gt, i * 4, none⟩ = some (.bool true) ∧ u.cell? ⟨gt, i * 4 + 1, none⟩ = some (.bool true) ∧ u.cell? ⟨gt, i * 4 + 2, none⟩ = some (.int .i64 m.typ) ∧ u.cell? ⟨gt, i * 4 + 3, none⟩ = some (.int .i64 m.flags) ∧ u.cell? ⟨gs, 1, none⟩ = some (.int .i64 s.f1) ∧ u.cell? ⟨gs, 2, none⟩ = some (.int .i64 s.f2)) (ds := [31]) #[false, false, false, false, false, false, false, false, false, false, false, false, false, false, false, false, false, false, false, false, false, false, false, false, false, false, false, false, false, false, false, false] (by kernel_rfl) rfl rfl ?_ (fun hHeld => ?_)
                  case refine_1 => exact ⟨d0, d1, d2, d3, z1, z2⟩
                  refine pure_ (i := 0) (N := some 55) (v := ?_) (a' := ?_) #[true, false, false, false, false, false, false, false, false, false, false, false, false, false, false, false, false, false, false, false, false, false, false, false, false, false, false, false, false, false, false, false] rfl rfl (by kernel_rfl) (fun _ _ _ h => h) (Or.inl ⟨by rfl, ?_⟩) ?_ ?_
                  rotate_left
                  · intro u
                    go_simp
                    with_reducible rfl
                  rotate_left
                  · simp only [Act.put, List.setIfInBounds_toArray, List.set_cons_zero, List.set_cons_succ, i64_w, i32_w]
                    rfl
                  refine pure_ (i := 1) (N := some 56) (v := ?_) (a' := ?_) #[true, true, false, false, false, false, false, false, false, false, false, false, false, false, false, false, false, false, false, false, false, false, false, false, false, false, false, false, false, false, false, false] rfl rfl (by kernel_rfl) (fun _ _ _ h => h) (Or.inl ⟨by rfl, ?_⟩) ?_ ?_
                  rotate_left
                  · intro u
                    go_simp
                    with_reducible rfl
                  rotate_left
                  · simp only [Act.put, List.setIfInBounds_toArray, List.set_cons_zero, List.set_cons_succ, i64_w, i32_w]
                    rfl
                  refine pure_ (i := 2) (N := some 57) (v := ?_) (a' := ?_) #[true, true, true, false, false, false, false, false, false, false, false, false, false, false, false, false, false, false, false, false, false, false, false, false, false, false, false, false, false, false, false, false] rfl rfl (by kernel_rfl) (fun _ _ _ h => h) (Or.inl ⟨by rfl, ?_⟩) ?_ ?_
                  rotate_left
                  · intro u
                    go_simp
                    with_reducible rfl
                  rotate_left
                  · simp only [Act.put, List.setIfInBounds_toArray, List.set_cons_zero, List.set_cons_succ, i64_w, i32_w]
                    rfl
                  refine pure_ (i := 3) (N := some 58) (v := ?_) (a' := ?_) #[true, true, true, true, false, false, false, false, false, false, false, false, false, false, false, false, false, false, false, false, false, false, false, false, false, false, false, false, false, false, false, false] rfl rfl (by kernel_rfl) (fun _ _ _ h => h) (Or.inl ⟨by rfl, ?_⟩) ?_ ?_
                  rotate_left
                  · intro u
                    go_simp
                    with_reducible rfl
                  rotate_left
                  · simp only [Act.put, List.setIfInBounds_toArray, List.set_cons_zero, List.set_cons_succ, i64_w, i32_w]
                    rfl
                  refine take_ (i := 4) (N := some 59) (v := ?_) (a' := ?_) #[true, true, true, true, true, false, false, false, false, false, false, false, false, false, false, false, false, false, false, false, false, false, false, false, false, false, false, false, false, false, false, false] rfl rfl (by kernel_rfl) (fun _ _ _ h => h) (Or.inl ⟨by rfl, ?_⟩) hHeld ?_ ?_
                  rotate_left
                  · rintro u ⟨g0, g1, g2, g3, g4, g5⟩
                    go_simp
                    with_reducible rfl
                  rotate_left
                  · simp only [Act.put, List.setIfInBounds_toArray, List.set_cons_zero, List.set_cons_succ, i64_w, i32_w]
                    rfl
                  refine pure_ (i := 5) (N := some 60) (v := ?_) (a' := ?_) #[true, true, true, true, true, true, false, false, false, false, false, false, false, false, false, false, false, false, false, false, false, false, false, false, false, false, false, false, false, false, false, false] rfl rfl (by kernel_rfl) (fun _ _ _ h => h) (Or.inl ⟨by rfl, ?_⟩) ?_ ?_
                  rotate_left
                  · intro u
                    go_simp
                    with_reducible rfl
                  rotate_left
                  · simp only [Act.put, List.setIfInBounds_toArray, List.set_cons_zero, List.set_cons_succ, i64_w, i32_w]
                    rfl
                  refine pure_ (i := 6) (N := some 61) (v := ?_) (a' := ?_) #[true, true, true, true, true, true, true, false, false, false, false, false, false, false, false, false, false, false, false, false, false, false, false, false, false, false, false, false, false, false, false, false] rfl rfl (by kernel_rfl) (fun _ _ _ h => h) ?_ ?_ ?_
                  rotate_left
                  · first
                    | (refine Or.inr ⟨by rfl, ?_⟩; with_reducible rfl)
                    | (refine Or.inl ⟨by rfl, ?_⟩
                       intro u
                       go_simp
                       with_reducible rfl)
                  rotate_left
                  · simp only [Act.put, List.setIfInBounds_toArray, List.set_cons_zero, List.set_cons_succ, i64_w, i32_w]
                    rfl
                  refine pure_ (i := 7) (N := some 62) (v := ?_) (a' := ?_) #[true, true, true, true, true, true, true, true, false, false, false, false, false, false, false, false, false, false, false, false, false, false, false, false, false, false, false, false, false, false, false, false] rfl rfl (by kernel_rfl) (fun _ _ _ h => h) ?_ ?_ ?_
                  rotate_left
                  · first
                    | (refine Or.inr ⟨by rfl, ?_⟩; with_reducible rfl)
                    | (refine Or.inl ⟨by rfl, ?_⟩
                       intro u
                       go_simp
                       with_reducible rfl)
                  rotate_left
                  · simp only [Act.put, List.setIfInBounds_toArray, List.set_cons_zero, List.set_cons_succ, i64_w, i32_w]
                    rfl
                  refine pure_ (i := 8) (N := some 63) (v := ?_) (a' := ?_) #[true, true, true, true, true, true, true, true, true, false, false, false, false, false, false, false, false, false, false, false, false, false, false, false, false, false, false, false, false, false, false, false] rfl rfl (by kernel_rfl) (fun _ _ _ h => h) ?_ ?_ ?_
                  rotate_left
                  · first
                    | (refine Or.inr ⟨by rfl, ?_⟩; with_reducible rfl)
                    | (refine Or.inl ⟨by rfl, ?_⟩
                       intro u
                       go_simp
                       with_reducible rfl)
                  rotate_left
                  · simp only [Act.put, List.setIfInBounds_toArray, List.set_cons_zero, List.set_cons_succ, i64_w, i32_w]
                    rfl
                  refine take_ (i := 9) (N := some 64) (v := ?_) (a' := ?_) #[true, true, true, true, true, true, true, true, true, true, false, false, false, false, false, false, false, false, false, false, false, false, false, false, false, false, false, false, false, false, false, false] rfl rfl (by kernel_rfl) (fun _ _ _ h => h) ?_ hHeld ?_ ?_
                  rotate_left
                  · first
                    | (refine Or.inr ⟨by rfl, ?_⟩; with_reducible rfl)
                    | (refine Or.inl ⟨by rfl, ?_⟩
                       rintro u ⟨g0, g1, g2, g3, g4, g5⟩
                       go_simp
                       with_reducible rfl)
                  rotate_left
                  · simp only [Act.put, List.setIfInBounds_toArray, List.set_cons_zero, List.set_cons_succ, i64_w, i32_w]
                    rfl
                  refine pure_ (i := 10) (N := some 65) (v := ?_) (a' := ?_) #[true, true, true, true, true, true, true, true, true, true, true, false, false, false, false, false, false, false, false, false, false, false, false, false, false, false, false, false, false, false, false, false] rfl rfl (by kernel_rfl) (fun _ _ _ h => h) ?_ ?_ ?_
                  rotate_left
                  · first
                    | (refine Or.inr ⟨by rfl, ?_⟩; with_reducible rfl)
                    | (refine Or.inl ⟨by rfl, ?_⟩
                       intro u
                       go_simp
                       with_reducible rfl)
                  rotate_left
                  · simp only [Act.put, List.setIfInBounds_toArray, List.set_cons_zero, List.set_cons_succ, i64_w, i32_w]
                    rfl
                  refine pure_ (i := 11) (N := some 66) (v := ?_) (a' := ?_) #[true, true, true, true, true, true, true, true, true, true, true, true, false, false, false, false, false, false, false, false, false, false, false, false, false, false, false, false, false, false, false, false] rfl rfl (by kernel_rfl) (fun _ _ _ h => h) ?_ ?_ ?_
                  rotate_left
                  · first
                    | (refine Or.inr ⟨by rfl, ?_⟩; with_reducible rfl)
                    | (refine Or.inl ⟨by rfl, ?_⟩
                       intro u
                       go_simp
                       with_reducible rfl)
                  rotate_left
                  · simp only [Act.put, List.setIfInBounds_toArray, List.set_cons_zero, List.set_cons_succ, i64_w, i32_w]
                    rfl
                  refine pure_ (i := 12) (N := some 67) (v := ?_) (a' := ?_) #[true, true, true, true, true, true, true, true, true, true, true, true, true, false, false, false, false, false, false, false, false, false, false, false, false, false, false, false, false, false, false, false] rfl rfl (by kernel_rfl) (fun _ _ _ h => h) ?_ ?_ ?_
                  rotate_left
                  · first
                    | (refine Or.inr ⟨by rfl, ?_⟩; with_reducible rfl)
                    | (refine Or.inl ⟨by rfl, ?_⟩
                       intro u
                       go_simp
                       with_reducible rfl)
                  rotate_left
                  · simp only [Act.put, List.setIfInBounds_toArray, List.set_cons_zero, List.set_cons_succ, i64_w, i32_w]
                    rfl
                  refine pure_ (i := 13) (N := some 68) (v := ?_) (a' := ?_) #[true, true, true, true, true, true, true, true, true, true, true, true, true, true, false, false, false, false, false, false, false, false, false, false, false, false, false, false, false, false, false, false] rfl rfl (by kernel_rfl) (fun _ _ _ h => h) ?_ ?_ ?_
                  rotate_left
                  · first
                    | (refine Or.inr ⟨by rfl, ?_⟩; with_reducible rfl)
                    | (refine Or.inl ⟨by rfl, ?_⟩
                       intro u
                       go_simp
                       with_reducible rfl)
                  rotate_left
                  · simp only [Act.put, List.setIfInBounds_toArray, List.set_cons_zero, List.set_cons_succ, i64_w, i32_w]
                    rfl
                  refine take_ (i := 14) (N := some 69) (v := ?_) (a' := ?_) #[true, true, true, true, true, true, true, true, true, true, true, true, true, true, true, false, false, false, false, false, false, false, false, false, false, false, false, false, false, false, false, false] rfl rfl (by kernel_rfl) (fun _ _ _ h => h) ?_ hHeld ?_ ?_
                  rotate_left
                  · first
                    | (refine Or.inr ⟨by rfl, ?_⟩; with_reducible rfl)
                    | (refine Or.inl ⟨by rfl, ?_⟩
                       rintro u ⟨g0, g1, g2, g3, g4, g5⟩
                       go_simp
                       with_reducible rfl)
                  rotate_left
                  · simp only [Act.put, List.setIfInBounds_toArray, List.set_cons_zero, List.set_cons_succ, i64_w, i32_w]
                    rfl
                  refine pure_ (i := 15) (N := some 70) (v := ?_) (a' := ?_) #[true, true, true, true, true, true, true, true, true, true, true, true, true, true, true, true, false, false, false, false, false, false, false, false, false, false, false, false, false, false, false, false] rfl rfl (by kernel_rfl) (fun _ _ _ h => h) ?_ ?_ ?_
                  rotate_left
                  · first
                    | (refine Or.inr ⟨by rfl, ?_⟩; with_reducible rfl)
                    | (refine Or.inl ⟨by rfl, ?_⟩
                       intro u
                       go_simp
                       with_reducible rfl)
                  rotate_left
                  · simp only [Act.put, List.setIfInBounds_toArray, List.set_cons_zero, List.set_cons_succ, i64_w, i32_w]
                    rfl
                  refine take_ (i := 16) (N := some 71) (v := ?_) (a' := ?_) #[true, true, true, true, true, true, true, true, true, true, true, true, true, true, true, true, true, false, false, false, false, false, false, false, false, false, false, false, false, false, false, false] rfl rfl (by kernel_rfl) (fun _ _ _ h => h) ?_ hHeld ?_ ?_
                  rotate_left
                  · first
                    | (refine Or.inr ⟨by rfl, ?_⟩; with_reducible rfl)
                    | (refine Or.inl ⟨by rfl, ?_⟩
                       rintro u ⟨g0, g1, g2, g3, g4, g5⟩
                       go_simp
                       with_reducible rfl)
                  rotate_left
                  · simp only [Act.put, List.setIfInBounds_toArray, List.set_cons_zero, List.set_cons_succ, i64_w, i32_w]
                    rfl
                  refine pure_ (i := 17) (N := some 72) (v := ?_) (a' := ?_) #[true, true, true, true, true, true, true, true, true, true, true, true, true, true, true, true, true, true, false, false, false, false, false, false, false, false, false, false, false, false, false, false] rfl rfl (by kernel_rfl) (fun _ _ _ h => h) ?_ ?_ ?_
                  rotate_left
                  · first
                    | (refine Or.inr ⟨by rfl, ?_⟩; with_reducible rfl)
                    | (refine Or.inl ⟨by rfl, ?_⟩
                       intro u
                       go_simp
                       with_reducible rfl)
                  rotate_left
                  · simp only [Act.put, List.setIfInBounds_toArray, List.set_cons_zero, List.set_cons_succ, i64_w, i32_w]
                    rfl
                  refine pure_ (i := 18) (N := some 73) (v := ?_) (a' := ?_) #[true, true, true, true, true, true, true, true, true, true, true, true, true, true, true, true, true, true, true, false, false, false, false, false, false, false, false, false, false, false, false, false] rfl rfl (by kernel_rfl) (fun _ _ _ h => h) ?_ ?_ ?_
                  rotate_left
                  · first
                    | (refine Or.inr ⟨by rfl, ?_⟩; with_reducible rfl)
                    | (refine Or.inl ⟨by rfl, ?_⟩
                       intro u
                       go_simp
                       with_reducible rfl)
                  rotate_left
                  · simp only [Act.put, List.setIfInBounds_toArray, List.set_cons_zero, List.set_cons_succ, i64_w, i32_w]
                    rfl
                  refine pure_ (i := 19) (N := some 74) (v := ?_) (a' := ?_) #[true, true, true, true, true, true, true, true, true, true, true, true, true, true, true, true, true, true, true, true, false, false, false, false, false, false, false, false, false, false, false, false] rfl rfl (by kernel_rfl) (fun _ _ _ h => h) ?_ ?_ ?_
                  rotate_left
                  · first
                    | (refine Or.inr ⟨by rfl, ?_⟩; with_reducible rfl)
                    | (refine Or.inl ⟨by rfl, ?_⟩
                       intro u
                       go_simp
                       with_reducible rfl)
                  rotate_left
                  · simp only [Act.put, List.setIfInBounds_toArray, List.set_cons_zero, List.set_cons_succ, i64_w, i32_w]
                    rfl
                  refine pure_ (i := 20) (N := some 75) (v := ?_) (a' := ?_) #[true, true, true, true, true, true, true, true, true, true, true, true, true, true, true, true, true, true, true, true, true, false, false, false, false, false, false, false, false, false, false, false] rfl rfl (by kernel_rfl) (fun _ _ _ h => h) ?_ ?_ ?_
                  rotate_left
                  · first
                    | (refine Or.inr ⟨by rfl, ?_⟩; with_reducible rfl)
                    | (refine Or.inl ⟨by rfl, ?_⟩
                       intro u
                       go_simp
                       with_reducible rfl)
                  rotate_left
                  · simp only [Act.put, List.setIfInBounds_toArray, List.set_cons_zero, List.set_cons_succ, i64_w, i32_w]
                    rfl
                  refine pure_ (i := 21) (N := some 76) (v := ?_) (a' := ?_) #[true, true, true, true, true, true, true, true, true, true, true, true, true, true, true, true, true, true, true, true, true, true, false, false, false, false, false, false, false, false, false, false] rfl rfl (by kernel_rfl) (fun _ _ _ h => h) ?_ ?_ ?_
                  rotate_left
                  · first
                    | (refine Or.inr ⟨by rfl, ?_⟩; with_reducible rfl)
                    | (refine Or.inl ⟨by rfl, ?_⟩
                       intro u
                       go_simp
                       with_reducible rfl)
                  rotate_left
                  · simp only [Act.put, List.setIfInBounds_toArray, List.set_cons_zero, List.set_cons_succ, i64_w, i32_w]
                    rfl
                  refine take_ (i := 22) (N := some 77) (v := ?_) (a' := ?_) #[true, true, true, true, true, true, true, true, true, true, true, true, true, true, true, true, true, true, true, true, true, true, true, false, false, false, false, false, false, false, false, false] rfl rfl (by kernel_rfl) (fun _ _ _ h => h) ?_ hHeld ?_ ?_
                  rotate_left
                  · first
                    | (refine Or.inr ⟨by rfl, ?_⟩; with_reducible rfl)
                    | (refine Or.inl ⟨by rfl, ?_⟩
                       rintro u ⟨g0, g1, g2, g3, g4, g5⟩
                       go_simp
                       with_reducible rfl)
                  rotate_left
                  · simp only [Act.put, List.setIfInBounds_toArray, List.set_cons_zero, List.set_cons_succ, i64_w, i32_w]
                    rfl
                  refine pure_ (i := 23) (N := some 78) (v := ?_) (a' := ?_) #[true, true, true, true, true, true, true, true, true, true, true, true, true, true, true, true, true, true, true, true, true, true, true, true, false, false, false, false, false, false, false, false] rfl rfl (by kernel_rfl) (fun _ _ _ h => h) ?_ ?_ ?_
                  rotate_left
                  · first
                    | (refine Or.inr ⟨by rfl, ?_⟩; with_reducible rfl)
                    | (refine Or.inl ⟨by rfl, ?_⟩
                       intro u
                       go_simp
                       with_reducible rfl)
                  rotate_left
                  · simp only [Act.put, List.setIfInBounds_toArray, List.set_cons_zero, List.set_cons_succ, i64_w, i32_w]
                    rfl
                  refine take_ (i := 24) (N := some 79) (v := ?_) (a' := ?_) #[true, true, true, true, true, true, true, true, true, true, true, true, true, true, true, true, true, true, true, true, true, true, true, true, true, false, false, false, false, false, false, false] rfl rfl (by kernel_rfl) (fun _ _ _ h => h) ?_ hHeld ?_ ?_
                  rotate_left
                  · first
                    | (refine Or.inr ⟨by rfl, ?_⟩; with_reducible rfl)
                    | (refine Or.inl ⟨by rfl, ?_⟩
                       rintro u ⟨g0, g1, g2, g3, g4, g5⟩
                       go_simp
                       with_reducible rfl)
                  rotate_left
                  · simp only [Act.put, List.setIfInBounds_toArray, List.set_cons_zero, List.set_cons_succ, i64_w, i32_w]
                    rfl
                  refine pure_ (i := 25) (N := some 80) (v := ?_) (a' := ?_) #[true, true, true, true, true, true, true, true, true, true, true, true, true, true, true, true, true, true, true, true, true, true, true, true, true, true, false, false, false, false, false, false] rfl rfl (by kernel_rfl) (fun _ _ _ h => h) ?_ ?_ ?_
                  rotate_left
                  · first
                    | (refine Or.inr ⟨by rfl, ?_⟩; with_reducible rfl)
                    | (refine Or.inl ⟨by rfl, ?_⟩
                       intro u
                       go_simp
                       with_reducible rfl)
                  rotate_left
                  · simp only [Act.put, List.setIfInBounds_toArray, List.set_cons_zero, List.set_cons_succ, i64_w, i32_w]
                    rfl
                  refine pure_ (i := 26) (N := some 81) (v := ?_) (a' := ?_) #[true, true, true, true, true, true, true, true, true, true, true, true, true, true, true, true, true, true, true, true, true, true, true, true, true, true, true, false, false, false, false, false] rfl rfl (by kernel_rfl) (fun _ _ _ h => h) ?_ ?_ ?_
                  rotate_left
                  · first
                    | (refine Or.inr ⟨by rfl, ?_⟩; with_reducible rfl)
                    | (refine Or.inl ⟨by rfl, ?_⟩
                       intro u
                       go_simp
                       with_reducible rfl)
                  rotate_left
                  · simp only [Act.put, List.setIfInBounds_toArray, List.set_cons_zero, List.set_cons_succ, i64_w, i32_w]
                    rfl
                  refine pure_ (i := 27) (N := some 82) (v := ?_) (a' := ?_) #[true, true, true, true, true, true, true, true, true, true, true, true, true, true, true, true, true, true, true, true, true, true, true, true, true, true, true, true, false, false, false, false] rfl rfl (by kernel_rfl) (fun _ _ _ h => h) ?_ ?_ ?_
                  rotate_left
                  · first
                    | (refine Or.inr ⟨by rfl, ?_⟩; with_reducible rfl)
                    | (refine Or.inl ⟨by rfl, ?_⟩
                       intro u
                       go_simp
                       with_reducible rfl)
                  rotate_left
                  · simp only [Act.put, List.setIfInBounds_toArray, List.set_cons_zero, List.set_cons_succ, i64_w, i32_w]
                    rfl
                  refine pure_ (i := 28) (N := some 83) (v := ?_) (a' := ?_) #[true, true, true, true, true, true, true, true, true, true, true, true, true, true, true, true, true, true, true, true, true, true, true, true, true, true, true, true, true, false, false, false] rfl rfl (by kernel_rfl) (fun _ _ _ h => h) (Or.inl ⟨by rfl, ?_⟩) ?_ ?_
                  rotate_left
                  · intro u
                    go_simp
                    with_reducible rfl
                  rotate_left
                  · simp only [Act.put, List.setIfInBounds_toArray, List.set_cons_zero, List.set_cons_succ, i64_w, i32_w]
                    rfl
                  refine pure_ (i := 29) (N := some 84) (v := ?_) (a' := ?_) #[true, true, true, true, true, true, true, true, true, true, true, true, true, true, true, true, true, true, true, true, true, true, true, true, true, true, true, true, true, true, false, false] rfl rfl (by kernel_rfl) (fun _ _ _ h => h) (Or.inl ⟨by rfl, ?_⟩) ?_ ?_
                  rotate_left
                  · intro u
                    go_simp
                    with_reducible rfl
                  rotate_left
                  · simp only [Act.put, List.setIfInBounds_toArray, List.set_cons_zero, List.set_cons_succ, i64_w, i32_w]
                    rfl
                  refine pure_ (i := 30) (N := some 85) (v := ?_) (a' := ?_) #[true, true, true, true, true, true, true, true, true, true, true, true, true, true, true, true, true, true, true, true, true, true, true, true, true, true, true, true, true, true, true, false] rfl rfl (by kernel_rfl) (fun _ _ _ h => h) (Or.inl ⟨by rfl, ?_⟩) ?_ ?_
                  rotate_left
                  · intro u
                    go_simp
                    with_reducible rfl
                  rotate_left
                  · simp only [Act.put, List.setIfInBounds_toArray, List.set_cons_zero, List.set_cons_succ, i64_w, i32_w]
                    rfl
                  refine last_ (i := 31) (N := none) #[true, true, true, true, true, true, true, true, true, true, true, true, true, true, true, true, true, true, true, true, true, true, true, true, true, true, true, true, true, true, true, true] rfl rfl (by kernel_rfl) (by decide) (fun K hK => ?_)
                  rw [if_pos (by rfl)]
                  go_simp
                  refine hK.out _ _ ?_
                  clear hK K
                  refine done_ (by kernel_rfl) ?_
                  go_wp2
                  go_roundg gk
                  case measure => omega
                  case rel => exact ⟨k + 1, by omega, by go_num, ⟨(SEC.out [(1, .bool true)] (by rw [HV.out]; rfl) (by simp [Value.oneCell'])).below (below_drew (Below.refl _ _))⟩⟩
                | false =>
                  by_cases t1 : m.typ = s.f1
                  · have t1b : (m.typ != s.f1) = false := bne_eq_false_iff_eq.mpr t1
                    by_cases t2 : m.flags = s.f2
                    · have t2b : (m.flags != s.f2) = false := bne_eq_false_iff_eq.mpr t2
                      have HV := Aside0.mk (show kndF s m = { m with clash := false } from by unfold kndF; rw [← HV0.out.1, ← HV0.out.2]; simp [t1, t2])
                      clear t1 t2
                      go_wp2
                      refine start_ (n := 32) (S := fun u => u.cell? ⟨gt, i * 4, none⟩ = some (.bool true) ∧ u.cell? ⟨gt, i * 4 + 1, none⟩ = some (.bool false) ∧ u.cell? ⟨gt, i * 4 + 2, none⟩ = some (.int .i64 m.typ) ∧ u.cell? ⟨gt, i * 4 + 3, none⟩ = some (.int .i64 m.flags) ∧ u.cell? ⟨gs, 1, none⟩ = some (.int .i64 s.f1) ∧ u.cell? ⟨gs, 2, none⟩ = some (.int .i64 s.f2)) (ds := [31]) #[false, false, false, false, false, false, false, false, false, false, false, false, false, false, false, false, false, false, false, false, false, false, false, false, false, false, false, false, false, false, false, false] (by kernel_rfl) rfl rfl ?_ (fun hHeld => ?_)
                      case refine_1 => exact ⟨d0, d1, d2, d3, z1, z2⟩
                      refine pure_ (i := 0) (N := some 55) (v := ?_) (a' := ?_) #[true, false, false, false, false, false, false, false, false, false, false, false, false, false, false, false, false, false, false, false, false, false, false, false, false, false, false, false, false, false, false, false] rfl rfl (by kernel_rfl) (fun _ _ _ h => h) (Or.inl ⟨by rfl, ?_⟩) ?_ ?_
                      rotate_left
                      · intro u
                        go_simp
                        with_reducible rfl
                      rotate_left
                      · simp only [Act.put, List.setIfInBounds_toArray, List.set_cons_zero, List.set_cons_succ, i64_w, i32_w]
                        rfl
                      refine pure_ (i := 1) (N := some 56) (v := ?_) (a' := ?_) #[true, true, false, false, false, false, false, false, false, false, false, false, false, false, false, false, false, false, false, false, false, false, false, false, false, false, false, false, false, false, false, false] rfl rfl (by kernel_rfl) (fun _ _ _ h => h) (Or.inl ⟨by rfl, ?_⟩) ?_ ?_
                      rotate_left
                      · intro u
                        go_simp
                        with_reducible rfl
                      rotate_left
                      · simp only [Act.put, List.setIfInBounds_toArray, List.set_cons_zero, List.set_cons_succ, i64_w, i32_w]
                        rfl
                      refine pure_ (i := 2) (N := some 57) (v := ?_) (a' := ?_) #[true, true, true, false, false, false, false, false, false, false, false, false, false, false, false, false, false, false, false, false, false, false, false, false, false, false, false, false, false, false, false, false] rfl rfl (by kernel_rfl) (fun _ _ _ h => h) (Or.inl ⟨by rfl, ?_⟩) ?_ ?_
                      rotate_left
                      · intro u
                        go_simp
                        with_reducible rfl
                      rotate_left
                      · simp only [Act.put, List.setIfInBounds_toArray, List.set_cons_zero, List.set_cons_succ, i64_w, i32_w]
                        rfl
                      refine pure_ (i := 3) (N := some 58) (v := ?_) (a' := ?_) #[true, true, true, true, false, false, false, false, false, false, false, false, false, false, false, false, false, false, false, false, false, false, false, false, false, false, false, false, false, false, false, false] rfl rfl (by kernel_rfl) (fun _ _ _ h => h) (Or.inl ⟨by rfl, ?_⟩) ?_ ?_
                      rotate_left
                      · intro u
                        go_simp
                        with_reducible rfl
                      rotate_left
                      · simp only [Act.put, List.setIfInBounds_toArray, List.set_cons_zero, List.set_cons_succ, i64_w, i32_w]
                        rfl
                      refine take_ (i := 4) (N := some 59) (v := ?_) (a' := ?_) #[true, true, true, true, true, false, false, false, false, false, false, false, false, false, false, false, false, false, false, false, false, false, false, false, false, false, false, false, false, false, false, false] rfl rfl (by kernel_rfl) (fun _ _ _ h => h) (Or.inl ⟨by rfl, ?_⟩) hHeld ?_ ?_
                      rotate_left
                      · rintro u ⟨g0, g1, g2, g3, g4, g5⟩
                        go_simp
                        with_reducible rfl
                      rotate_left
                      · simp only [Act.put, List.setIfInBounds_toArray, List.set_cons_zero, List.set_cons_succ, i64_w, i32_w]
                        rfl
                      refine pure_ (i := 5) (N := some 60) (v := ?_) (a' := ?_) #[true, true, true, true, true, true, false, false, false, false, false, false, false, false, false, false, false, false, false, false, false, false, false, false, false, false, false, false, false, false, false, false] rfl rfl (by kernel_rfl) (fun _ _ _ h => h) (Or.inl ⟨by rfl, ?_⟩) ?_ ?_
                      rotate_left
                      · intro u
                        go_simp
                        with_reducible rfl
                      rotate_left
                      · simp only [Act.put, List.setIfInBounds_toArray, List.set_cons_zero, List.set_cons_succ, i64_w, i32_w]
                        rfl
                      refine pure_ (i := 6) (N := some 61) (v := ?_) (a' := ?_) #[true, true, true, true, true, true, true, false, false, false, false, false, false, false, false, false, false, false, false, false, false, false, false, false, false, false, false, false, false, false, false, false] rfl rfl (by kernel_rfl) (fun _ _ _ h => h) ?_ ?_ ?_
                      rotate_left
                      · first
                        | (refine Or.inr ⟨by rfl, ?_⟩; with_reducible rfl)
                        | (refine Or.inl ⟨by rfl, ?_⟩
                           intro u
                           go_simp
                           with_reducible rfl)
                      rotate_left
                      · simp only [Act.put, List.setIfInBounds_toArray, List.set_cons_zero, List.set_cons_succ, i64_w, i32_w]
                        rfl
                      refine pure_ (i := 7) (N := some 62) (v := ?_) (a' := ?_) #[true, true, true, true, true, true, true, true, false, false, false, false, false, false, false, false, false, false, false, false, false, false, false, false, false, false, false, false, false, false, false, false] rfl rfl (by kernel_rfl) (fun _ _ _ h => h) ?_ ?_ ?_
                      rotate_left
                      · first
                        | (refine Or.inr ⟨by rfl, ?_⟩; with_reducible rfl)
                        | (refine Or.inl ⟨by rfl, ?_⟩
                           intro u
                           go_simp
                           with_reducible rfl)
                      rotate_left
                      · simp only [Act.put, List.setIfInBounds_toArray, List.set_cons_zero, List.set_cons_succ, i64_w, i32_w]
                        rfl
                      refine pure_ (i := 8) (N := some 63) (v := ?_) (a' := ?_) #[true, true, true, true, true, true, true, true, true, false, false, false, false, false, false, false, false, false, false, false, false, false, false, false, false, false, false, false, false, false, false, false] rfl rfl (by kernel_rfl) (fun _ _ _ h => h) ?_ ?_ ?_
                      rotate_left
                      · first
                        | (refine Or.inr ⟨by rfl, ?_⟩; with_reducible rfl)
                        | (refine Or.inl ⟨by rfl, ?_⟩
                           intro u
                           go_simp
                           with_reducible rfl)
                      rotate_left
                      · simp only [Act.put, List.setIfInBounds_toArray, List.set_cons_zero, List.set_cons_succ, i64_w, i32_w]
                        rfl
                      refine take_ (i := 9) (N := some 64) (v := ?_) (a' := ?_) #[true, true, true, true, true, true, true, true, true, true, false, false, false, false, false, false, false, false, false, false, false, false, false, false, false, false, false, false, false, false, false, false] rfl rfl (by kernel_rfl) (fun _ _ _ h => h) ?_ hHeld ?_ ?_
                      rotate_left
                      · first
                        | (refine Or.inr ⟨by rfl, ?_⟩; with_reducible rfl)
                        | (refine Or.inl ⟨by rfl, ?_⟩
                           rintro u ⟨g0, g1, g2, g3, g4, g5⟩
                           go_simp
                           with_reducible rfl)
                      rotate_left
                      · simp only [Act.put, List.setIfInBounds_toArray, List.set_cons_zero, List.set_cons_succ, i64_w, i32_w]
                        rfl
                      refine pure_ (i := 10) (N := some 65) (v := ?_) (a' := ?_) #[true, true, true, true, true, true, true, true, true, true, true, false, false, false, false, false, false, false, false, false, false, false, false, false, false, false, false, false, false, false, false, false] rfl rfl (by kernel_rfl) (fun _ _ _ h => h) ?_ ?_ ?_
                      rotate_left
                      · first
                        | (refine Or.inr ⟨by rfl, ?_⟩; with_reducible rfl)
                        | (refine Or.inl ⟨by rfl, ?_⟩
                           intro u
                           go_simp
                           with_reducible rfl)
                      rotate_left
                      · simp only [Act.put, List.setIfInBounds_toArray, List.set_cons_zero, List.set_cons_succ, i64_w, i32_w]
                        rfl
                      refine pure_ (i := 11) (N := some 66) (v := ?_) (a' := ?_) #[true, true, true, true, true, true, true, true, true, true, true, true, false, false, false, false, false, false, false, false, false, false, false, false, false, false, false, false, false, false, false, false] rfl rfl (by kernel_rfl) (fun _ _ _ h => h) ?_ ?_ ?_
                      rotate_left
                      · first
                        | (refine Or.inr ⟨by rfl, ?_⟩; with_reducible rfl)
                        | (refine Or.inl ⟨by rfl, ?_⟩
                           intro u
                           go_simp
                           with_reducible rfl)
                      rotate_left
                      · simp only [Act.put, List.setIfInBounds_toArray, List.set_cons_zero, List.set_cons_succ, i64_w, i32_w]
                        rfl
                      refine pure_ (i := 12) (N := some 67) (v := ?_) (a' := ?_) #[true, true, true, true, true, true, true, true, true, true, true, true, true, false, false, false, false, false, false, false, false, false, false, false, false, false, false, false, false, false, false, false] rfl rfl (by kernel_rfl) (fun _ _ _ h => h) ?_ ?_ ?_
                      rotate_left
                      · first
                        | (refine Or.inr ⟨by rfl, ?_⟩; with_reducible rfl)
                        | (refine Or.inl ⟨by rfl, ?_⟩
                           intro u
                           go_simp
                           with_reducible rfl)
                      rotate_left
                      · simp only [Act.put, List.setIfInBounds_toArray, List.set_cons_zero, List.set_cons_succ, i64_w, i32_w]
                        rfl
                      refine pure_ (i := 13) (N := some 68) (v := ?_) (a' := ?_) #[true, true, true, true, true, true, true, true, true, true, true, true, true, true, false, false, false, false, false, false, false, false, false, false, false, false, false, false, false, false, false, false] rfl rfl (by kernel_rfl) (fun _ _ _ h => h) ?_ ?_ ?_
                      rotate_left
                      · first
                        | (refine Or.inr ⟨by rfl, ?_⟩; with_reducible rfl)
                        | (refine Or.inl ⟨by rfl, ?_⟩
                           intro u
                           go_simp
                           with_reducible rfl)
                      rotate_left
                      · simp only [Act.put, List.setIfInBounds_toArray, List.set_cons_zero, List.set_cons_succ, i64_w, i32_w]
                        rfl
                      refine take_ (i := 14) (N := some 69) (v := ?_) (a' := ?_) #[true, true, true, true, true, true, true, true, true, true, true, true, true, true, true, false, false, false, false, false, false, false, false, false, false, false, false, false, false, false, false, false] rfl rfl (by kernel_rfl) (fun _ _ _ h => h) ?_ hHeld ?_ ?_
                      rotate_left
                      · first
                        | (refine Or.inr ⟨by rfl, ?_⟩; with_reducible rfl)
                        | (refine Or.inl ⟨by rfl, ?_⟩
                           rintro u ⟨g0, g1, g2, g3, g4, g5⟩
                           go_simp
                           with_reducible rfl)
                      rotate_left
                      · simp only [Act.put, List.setIfInBounds_toArray, List.set_cons_zero, List.set_cons_succ, i64_w, i32_w]
                        rfl
                      refine pure_ (i := 15) (N := some 70) (v := ?_) (a' := ?_) #[true, true, true, true, true, true, true, true, true, true, true, true, true, true, true, true, false, false, false, false, false, false, false, false, false, false, false, false, false, false, false, false] rfl rfl (by kernel_rfl) (fun _ _ _ h => h) ?_ ?_ ?_
                      rotate_left
                      · first
                        | (refine Or.inr ⟨by rfl, ?_⟩; with_reducible rfl)
                        | (refine Or.inl ⟨by rfl, ?_⟩
                           intro u
                           go_simp
                           with_reducible rfl)
                      rotate_left
                      · simp only [Act.put, List.setIfInBounds_toArray, List.set_cons_zero, List.set_cons_succ, i64_w, i32_w]
                        rfl
                      refine take_ (i := 16) (N := some 71) (v := ?_) (a' := ?_) #[true, true, true, true, true, true, true, true, true, true, true, true, true, true, true, true, true, false, false, false, false, false, false, false, false, false, false, false, false, false, false, false] rfl rfl (by kernel_rfl) (fun _ _ _ h => h) ?_ hHeld ?_ ?_
                      rotate_left
                      · first
                        | (refine Or.inr ⟨by rfl, ?_⟩; with_reducible rfl)
                        | (refine Or.inl ⟨by rfl, ?_⟩
                           rintro u ⟨g0, g1, g2, g3, g4, g5⟩
                           go_simp
                           with_reducible rfl)
                      rotate_left
                      · simp only [Act.put, List.setIfInBounds_toArray, List.set_cons_zero, List.set_cons_succ, i64_w, i32_w]
                        rfl
                      refine pure_ (i := 17) (N := some 72) (v := ?_) (a' := ?_) #[true, true, true, true, true, true, true, true, true, true, true, true, true, true, true, true, true, true, false, false, false, false, false, false, false, false, false, false, false, false, false, false] rfl rfl (by kernel_rfl) (fun _ _ _ h => h) ?_ ?_ ?_
                      rotate_left
                      · first
                        | (refine Or.inr ⟨by rfl, ?_⟩; with_reducible rfl)
                        | (refine Or.inl ⟨by rfl, ?_⟩
                           intro u
                           go_simp
                           with_reducible rfl)
                      rotate_left
                      · simp only [Act.put, List.setIfInBounds_toArray, List.set_cons_zero, List.set_cons_succ, i64_w, i32_w]
                        rfl
                      refine pure_ (i := 18) (N := some 73) (v := ?_) (a' := ?_) #[true, true, true, true, true, true, true, true, true, true, true, true, true, true, true, true, true, true, true, false, false, false, false, false, false, false, false, false, false, false, false, false] rfl rfl (by kernel_rfl) (fun _ _ _ h => h) ?_ ?_ ?_
                      rotate_left
                      · first
                        | (refine Or.inr ⟨by rfl, ?_⟩; with_reducible rfl)
                        | (refine Or.inl ⟨by rfl, ?_⟩
                           intro u
                           go_simp
                           with_reducible rfl)
                      rotate_left
                      · simp only [Act.put, List.setIfInBounds_toArray, List.set_cons_zero, List.set_cons_succ, i64_w, i32_w]
                        rfl
                      refine pure_ (i := 19) (N := some 74) (v := ?_) (a' := ?_) #[true, true, true, true, true, true, true, true, true, true, true, true, true, true, true, true, true, true, true, true, false, false, false, false, false, false, false, false, false, false, false, false] rfl rfl (by kernel_rfl) (fun _ _ _ h => h) ?_ ?_ ?_
                      rotate_left
                      · first
                        | (refine Or.inr ⟨by rfl, ?_⟩; with_reducible rfl)
                        | (refine Or.inl ⟨by rfl, ?_⟩
                           intro u
                           go_simp
                           with_reducible rfl)
                      rotate_left
                      · simp only [Act.put, List.setIfInBounds_toArray, List.set_cons_zero, List.set_cons_succ, i64_w, i32_w]
                        rfl
                      refine pure_ (i := 20) (N := some 75) (v := ?_) (a' := ?_) #[true, true, true, true, true, true, true, true, true, true, true, true, true, true, true, true, true, true, true, true, true, false, false, false, false, false, false, false, false, false, false, false] rfl rfl (by kernel_rfl) (fun _ _ _ h => h) ?_ ?_ ?_
                      rotate_left
                      · first
                        | (refine Or.inr ⟨by rfl, ?_⟩; with_reducible rfl)
                        | (refine Or.inl ⟨by rfl, ?_⟩
                           intro u
                           go_simp
                           with_reducible rfl)
                      rotate_left
                      · simp only [Act.put, List.setIfInBounds_toArray, List.set_cons_zero, List.set_cons_succ, i64_w, i32_w]
                        rfl
                      refine pure_ (i := 21) (N := some 76) (v := ?_) (a' := ?_) #[true, true, true, true, true, true, true, true, true, true, true, true, true, true, true, true, true, true, true, true, true, true, false, false, false, false, false, false, false, false, false, false] rfl rfl (by kernel_rfl) (fun _ _ _ h => h) ?_ ?_ ?_
                      rotate_left
                      · first
                        | (refine Or.inr ⟨by rfl, ?_⟩; with_reducible rfl)
                        | (refine Or.inl ⟨by rfl, ?_⟩
                           intro u
                           go_simp
                           with_reducible rfl)
                      rotate_left
                      · simp only [Act.put, List.setIfInBounds_toArray, List.set_cons_zero, List.set_cons_succ, i64_w, i32_w]
                        rfl
                      refine take_ (i := 22) (N := some 77) (v := ?_) (a' := ?_) #[true, true, true, true, true, true, true, true, true, true, true, true, true, true, true, true, true, true, true, true, true, true, true, false, false, false, false, false, false, false, false, false] rfl rfl (by kernel_rfl) (fun _ _ _ h => h) ?_ hHeld ?_ ?_
                      rotate_left
                      · first
                        | (refine Or.inr ⟨by rfl, ?_⟩; with_reducible rfl)
                        | (refine Or.inl ⟨by rfl, ?_⟩
                           rintro u ⟨g0, g1, g2, g3, g4, g5⟩
                           go_simp
                           with_reducible rfl)
                      rotate_left
                      · simp only [Act.put, List.setIfInBounds_toArray, List.set_cons_zero, List.set_cons_succ, i64_w, i32_w]
                        rfl
                      refine pure_ (i := 23) (N := some 78) (v := ?_) (a' := ?_) #[true, true, true, true, true, true, true, true, true, true, true, true, true, true, true, true, true, true, true, true, true, true, true, true, false, false, false, false, false, false, false, false] rfl rfl (by kernel_rfl) (fun _ _ _ h => h) ?_ ?_ ?_
                      rotate_left
                      · first
                        | (refine Or.inr ⟨by rfl, ?_⟩; with_reducible rfl)
                        | (refine Or.inl ⟨by rfl, ?_⟩
                           intro u
                           go_simp
                           with_reducible rfl)
                      rotate_left
                      · simp only [Act.put, List.setIfInBounds_toArray, List.set_cons_zero, List.set_cons_succ, i64_w, i32_w]
                        rfl
                      refine take_ (i := 24) (N := some 79) (v := ?_) (a' := ?_) #[true, true, true, true, true, true, true, true, true, true, true, true, true, true, true, true, true, true, true, true, true, true, true, true, true, false, false, false, false, false, false, false] rfl rfl (by kernel_rfl) (fun _ _ _ h => h) ?_ hHeld ?_ ?_
                      rotate_left
                      · first
                        | (refine Or.inr ⟨by rfl, ?_⟩; with_reducible rfl)
                        | (refine Or.inl ⟨by rfl, ?_⟩
                           rintro u ⟨g0, g1, g2, g3, g4, g5⟩
                           go_simp
                           with_reducible rfl)
                      rotate_left
                      · simp only [Act.put, List.setIfInBounds_toArray, List.set_cons_zero, List.set_cons_succ, i64_w, i32_w]
                        rfl
                      refine pure_ (i := 25) (N := some 80) (v := ?_) (a' := ?_) #[true, true, true, true, true, true, true, true, true, true, true, true, true, true, true, true, true, true, true, true, true, true, true, true, true, true, false, false, false, false, false, false] rfl rfl (by kernel_rfl) (fun _ _ _ h => h) ?_ ?_ ?_
                      rotate_left
                      · first
                        | (refine Or.inr ⟨by rfl, ?_⟩; with_reducible rfl)
                        | (refine Or.inl ⟨by rfl, ?_⟩
                           intro u
                           go_simp
                           with_reducible rfl)
                      rotate_left
                      · simp only [Act.put, List.setIfInBounds_toArray, List.set_cons_zero, List.set_cons_succ, i64_w, i32_w]
                        rfl
                      refine pure_ (i := 26) (N := some 81) (v := ?_) (a' := ?_) #[true, true, true, true, true, true, true, true, true, true, true, true, true, true, true, true, true, true, true, true, true, true, true, true, true, true, true, false, false, false, false, false] rfl rfl (by kernel_rfl) (fun _ _ _ h => h) ?_ ?_ ?_
                      rotate_left
                      · first
                        | (refine Or.inr ⟨by rfl, ?_⟩; with_reducible rfl)
                        | (refine Or.inl ⟨by rfl, ?_⟩
                           intro u
                           go_simp
                           with_reducible rfl)
                      rotate_left
                      · simp only [Act.put, List.setIfInBounds_toArray, List.set_cons_zero, List.set_cons_succ, i64_w, i32_w]
                        rfl
                      refine pure_ (i := 27) (N := some 82) (v := ?_) (a' := ?_) #[true, true, true, true, true, true, true, true, true, true, true, true, true, true, true, true, true, true, true, true, true, true, true, true, true, true, true, true, false, false, false, false] rfl rfl (by kernel_rfl) (fun _ _ _ h => h) ?_ ?_ ?_
                      rotate_left
                      · first
                        | (refine Or.inr ⟨by rfl, ?_⟩; with_reducible rfl)
                        | (refine Or.inl ⟨by rfl, ?_⟩
                           intro u
                           go_simp
                           with_reducible rfl)
                      rotate_left
                      · simp only [Act.put, List.setIfInBounds_toArray, List.set_cons_zero, List.set_cons_succ, i64_w, i32_w]
                        rfl
                      refine pure_ (i := 28) (N := some 83) (v := ?_) (a' := ?_) #[true, true, true, true, true, true, true, true, true, true, true, true, true, true, true, true, true, true, true, true, true, true, true, true, true, true, true, true, true, false, false, false] rfl rfl (by kernel_rfl) (fun _ _ _ h => h) (Or.inl ⟨by rfl, ?_⟩) ?_ ?_
                      rotate_left
                      · intro u
                        go_simp
                        with_reducible rfl
                      rotate_left
                      · simp only [Act.put, List.setIfInBounds_toArray, List.set_cons_zero, List.set_cons_succ, i64_w, i32_w]
                        rfl
                      refine pure_ (i := 29) (N := some 84) (v := ?_) (a' := ?_) #[true, true, true, true, true, true, true, true, true, true, true, true, true, true, true, true, true, true, true, true, true, true, true, true, true, true, true, true, true, true, false, false] rfl rfl (by kernel_rfl) (fun _ _ _ h => h) (Or.inl ⟨by rfl, ?_⟩) ?_ ?_
                      rotate_left
                      · intro u
                        go_simp
                        with_reducible rfl
                      rotate_left
                      · simp only [Act.put, List.setIfInBounds_toArray, List.set_cons_zero, List.set_cons_succ, i64_w, i32_w]
                        rfl
                      refine pure_ (i := 30) (N := some 85) (v := ?_) (a' := ?_) #[true, true, true, true, true, true, true, true, true, true, true, true, true, true, true, true, true, true, true, true, true, true, true, true, true, true, true, true, true, true, true, false] rfl rfl (by kernel_rfl) (fun _ _ _ h => h) (Or.inl ⟨by rfl, ?_⟩) ?_ ?_
                      rotate_left
                      · intro u
                        go_simp
                        with_reducible rfl
                      rotate_left
                      · simp only [Act.put, List.setIfInBounds_toArray, List.set_cons_zero, List.set_cons_succ, i64_w, i32_w]
                        rfl
                      refine last_ (i := 31) (N := none) #[true, true, true, true, true, true, true, true, true, true, true, true, true, true, true, true, true, true, true, true, true, true, true, true, true, true, true, true, true, true, true, true] rfl rfl (by kernel_rfl) (by decide) (fun K hK => ?_)
                      rw [if_pos (by rfl)]
                      go_simp
                      refine hK.out _ _ ?_
                      clear hK K
                      refine done_ (by kernel_rfl) ?_
                      go_wp2
                      go_roundg gk
                      case measure => omega
                      case rel => exact ⟨k + 1, by omega, by go_num, ⟨(SEC.out [(1, .bool false)] (by rw [HV.out]; rfl) (by simp [Value.oneCell'])).below (below_drew (Below.refl _ _))⟩⟩
                    · have t2b : (m.flags != s.f2) = true := bne_iff_ne.mpr t2
                      have HV := Aside0.mk (show kndF s m = { m with clash := true } from by unfold kndF; rw [← HV0.out.1, ← HV0.out.2]; simp [t1, t2])
                      clear t1 t2
                      go_wp2
                      refine start_ (n := 32) (S := fun u => u.cell? ⟨gt, i * 4, none⟩ = some (.bool true) ∧ u.cell? ⟨gt, i * 4 + 1, none⟩ = some (.bool false) ∧ u.cell? ⟨gt, i * 4 + 2, none⟩ = some (.int .i64 m.typ) ∧ u.cell? ⟨gt, i * 4 + 3, none⟩ = some (.int .i64 m.flags) ∧ u.cell? ⟨gs, 1, none⟩ = some (.int .i64 s.f1) ∧ u.cell? ⟨gs, 2, none⟩ = some (.int .i64 s.f2)) (ds := [31]) #[false, false, false, false, false, false, false, false, false, false, false, false, false, false, false, false, false, false, false, false, false, false, false, false, false, false, false, false, false, false, false, false] (by kernel_rfl) rfl rfl ?_ (fun hHeld => ?_)
                      case refine_1 => exact ⟨d0, d1, d2, d3, z1, z2⟩
                      refine pure_ (i := 0) (N := some 55) (v := ?_) (a' := ?_) #[true, false, false, false, false, false, false, false, false, false, false, false, false, false, false, false, false, false, false, false, false, false, false, false, false, false, false, false, false, false, false, false] rfl rfl (by kernel_rfl) (fun _ _ _ h => h) (Or.inl ⟨by rfl, ?_⟩) ?_ ?_
                      rotate_left
                      · intro u
                        go_simp
                        with_reducible rfl
                      rotate_left
                      · simp only [Act.put, List.setIfInBounds_toArray, List.set_cons_zero, List.set_cons_succ, i64_w, i32_w]
                        rfl
                      refine pure_ (i := 1) (N := some 56) (v := ?_) (a' := ?_) #[true, true, false, false, false, false, false, false, false, false, false, false, false, false, false, false, false, false, false, false, false, false, false, false, false, false, false, false, false, false, false, false] rfl rfl (by kernel_rfl) (fun _ _ _ h => h) (Or.inl ⟨by rfl, ?_⟩) ?_ ?_
                      rotate_left
                      · intro u
                        go_simp
                        with_reducible rfl
                      rotate_left
                      · simp only [Act.put, List.setIfInBounds_toArray, List.set_cons_zero, List.set_cons_succ, i64_w, i32_w]
                        rfl
                      refine pure_ (i := 2) (N := some 57) (v := ?_) (a' := ?_) #[true, true, true, false, false, false, false, false, false, false, false, false, false, false, false, false, false, false, false, false, false, false, false, false, false, false, false, false, false, false, false, false] rfl rfl (by kernel_rfl) (fun _ _ _ h => h) (Or.inl ⟨by rfl, ?_⟩) ?_ ?_
                      rotate_left
                      · intro u
                        go_simp
                        with_reducible rfl
                      rotate_left
                      · simp only [Act.put, List.setIfInBounds_toArray, List.set_cons_zero, List.set_cons_succ, i64_w, i32_w]
                        rfl
                      refine pure_ (i := 3) (N := some 58) (v := ?_) (a' := ?_) #[true, true, true, true, false, false, false, false, false, false, false, false, false, false, false, false, false, false, false, false, false, false, false, false, false, false, false, false, false, false, false, false] rfl rfl (by kernel_rfl) (fun _ _ _ h => h) (Or.inl ⟨by rfl, ?_⟩) ?_ ?_
                      rotate_left
                      · intro u
                        go_simp
                        with_reducible rfl
                      rotate_left
                      · simp only [Act.put, List.setIfInBounds_toArray, List.set_cons_zero, List.set_cons_succ, i64_w, i32_w]
                        rfl
                      refine take_ (i := 4) (N := some 59) (v := ?_) (a' := ?_) #[true, true, true, true, true, false, false, false, false, false, false, false, false, false, false, false, false, false, false, false, false, false, false, false, false, false, false, false, false, false, false, false] rfl rfl (by kernel_rfl) (fun _ _ _ h => h) (Or.inl ⟨by rfl, ?_⟩) hHeld ?_ ?_
                      rotate_left
                      · rintro u ⟨g0, g1, g2, g3, g4, g5⟩
                        go_simp
                        with_reducible rfl
                      rotate_left
                      · simp only [Act.put, List.setIfInBounds_toArray, List.set_cons_zero, List.set_cons_succ, i64_w, i32_w]
                        rfl
                      refine pure_ (i := 5) (N := some 60) (v := ?_) (a' := ?_) #[true, true, true, true, true, true, false, false, false, false, false, false, false, false, false, false, false, false, false, false, false, false, false, false, false, false, false, false, false, false, false, false] rfl rfl (by kernel_rfl) (fun _ _ _ h => h) (Or.inl ⟨by rfl, ?_⟩) ?_ ?_
                      rotate_left
                      · intro u
                        go_simp
                        with_reducible rfl
                      rotate_left
                      · simp only [Act.put, List.setIfInBounds_toArray, List.set_cons_zero, List.set_cons_succ, i64_w, i32_w]
                        rfl
                      refine pure_ (i := 6) (N := some 61) (v := ?_) (a' := ?_) #[true, true, true, true, true, true, true, false, false, false, false, false, false, false, false, false, false, false, false, false, false, false, false, false, false, false, false, false, false, false, false, false] rfl rfl (by kernel_rfl) (fun _ _ _ h => h) ?_ ?_ ?_
                      rotate_left
                      · first
                        | (refine Or.inr ⟨by rfl, ?_⟩; with_reducible rfl)
                        | (refine Or.inl ⟨by rfl, ?_⟩
                           intro u
                           go_simp
                           with_reducible rfl)
                      rotate_left
                      · simp only [Act.put, List.setIfInBounds_toArray, List.set_cons_zero, List.set_cons_succ, i64_w, i32_w]
                        rfl
                      refine pure_ (i := 7) (N := some 62) (v := ?_) (a' := ?_) #[true, true, true, true, true, true, true, true, false, false, false, false, false, false, false, false, false, false, false, false, false, false, false, false, false, false, false, false, false, false, false, false] rfl rfl (by kernel_rfl) (fun _ _ _ h => h) ?_ ?_ ?_
                      rotate_left
                      · first
                        | (refine Or.inr ⟨by rfl, ?_⟩; with_reducible rfl)
                        | (refine Or.inl ⟨by rfl, ?_⟩
                           intro u
                           go_simp
                           with_reducible rfl)
                      rotate_left
                      · simp only [Act.put, List.setIfInBounds_toArray, List.set_cons_zero, List.set_cons_succ, i64_w, i32_w]
                        rfl
                      refine pure_ (i := 8) (N := some 63) (v := ?_) (a' := ?_) #[true, true, true, true, true, true, true, true, true, false, false, false, false, false, false, false, false, false, false, false, false, false, false, false, false, false, false, false, false, false, false, false] rfl rfl (by kernel_rfl) (fun _ _ _ h => h) ?_ ?_ ?_
                      rotate_left
                      · first
                        | (refine Or.inr ⟨by rfl, ?_⟩; with_reducible rfl)
                        | (refine Or.inl ⟨by rfl, ?_⟩
                           intro u
                           go_simp
                           with_reducible rfl)
                      rotate_left
                      · simp only [Act.put, List.setIfInBounds_toArray, List.set_cons_zero, List.set_cons_succ, i64_w, i32_w]
                        rfl
                      refine take_ (i := 9) (N := some 64) (v := ?_) (a' := ?_) #[true, true, true, true, true, true, true, true, true, true, false, false, false, false, false, false, false, false, false, false, false, false, false, false, false, false, false, false, false, false, false, false] rfl rfl (by kernel_rfl) (fun _ _ _ h => h) ?_ hHeld ?_ ?_
                      rotate_left
                      · first
                        | (refine Or.inr ⟨by rfl, ?_⟩; with_reducible rfl)
                        | (refine Or.inl ⟨by rfl, ?_⟩
                           rintro u ⟨g0, g1, g2, g3, g4, g5⟩
                           go_simp
                           with_reducible rfl)
                      rotate_left
                      · simp only [Act.put, List.setIfInBounds_toArray, List.set_cons_zero, List.set_cons_succ, i64_w, i32_w]
                        rfl
                      refine pure_ (i := 10) (N := some 65) (v := ?_) (a' := ?_) #[true, true, true, true, true, true, true, true, true, true, true, false, false, false, false, false, false, false, false, false, false, false, false, false, false, false, false, false, false, false, false, false] rfl rfl (by kernel_rfl) (fun _ _ _ h => h) ?_ ?_ ?_
                      rotate_left
                      · first
                        | (refine Or.inr ⟨by rfl, ?_⟩; with_reducible rfl)
                        | (refine Or.inl ⟨by rfl, ?_⟩
                           intro u
                           go_simp
                           with_reducible rfl)
                      rotate_left
                      · simp only [Act.put, List.setIfInBounds_toArray, List.set_cons_zero, List.set_cons_succ, i64_w, i32_w]
                        rfl
                      refine pure_ (i := 11) (N := some 66) (v := ?_) (a' := ?_) #[true, true, true, true, true, true, true, true, true, true, true, true, false, false, false, false, false, false, false, false, false, false, false, false, false, false, false, false, false, false, false, false] rfl rfl (by kernel_rfl) (fun _ _ _ h => h) ?_ ?_ ?_
                      rotate_left
                      · first
                        | (refine Or.inr ⟨by rfl, ?_⟩; with_reducible rfl)
                        | (refine Or.inl ⟨by rfl, ?_⟩
                           intro u
                           go_simp
                           with_reducible rfl)
                      rotate_left
                      · simp only [Act.put, List.setIfInBounds_toArray, List.set_cons_zero, List.set_cons_succ, i64_w, i32_w]
                        rfl
                      refine pure_ (i := 12) (N := some 67) (v := ?_) (a' := ?_) #[true, true, true, true, true, true, true, true, true, true, true, true, true, false, false, false, false, false, false, false, false, false, false, false, false, false, false, false, false, false, false, false] rfl rfl (by kernel_rfl) (fun _ _ _ h => h) ?_ ?_ ?_
                      rotate_left
                      · first
                        | (refine Or.inr ⟨by rfl, ?_⟩; with_reducible rfl)
                        | (refine Or.inl ⟨by rfl, ?_⟩
                           intro u
                           go_simp
                           with_reducible rfl)
                      rotate_left
                      · simp only [Act.put, List.setIfInBounds_toArray, List.set_cons_zero, List.set_cons_succ, i64_w, i32_w]
                        rfl
                      refine pure_ (i := 13) (N := some 68) (v := ?_) (a' := ?_) #[true, true, true, true, true, true, true, true, true, true, true, true, true, true, false, false, false, false, false, false, false, false, false, false, false, false, false, false, false, false, false, false] rfl rfl (by kernel_rfl) (fun _ _ _ h => h) ?_ ?_ ?_
                      rotate_left
                      · first
                        | (refine Or.inr ⟨by rfl, ?_⟩; with_reducible rfl)
                        | (refine Or.inl ⟨by rfl, ?_⟩
                           intro u
                           go_simp
                           with_reducible rfl)
                      rotate_left
                      · simp only [Act.put, List.setIfInBounds_toArray, List.set_cons_zero, List.set_cons_succ, i64_w, i32_w]
                        rfl
                      refine take_ (i := 14) (N := some 69) (v := ?_) (a' := ?_) #[true, true, true, true, true, true, true, true, true, true, true, true, true, true, true, false, false, false, false, false, false, false, false, false, false, false, false, false, false, false, false, false] rfl rfl (by kernel_rfl) (fun _ _ _ h => h) ?_ hHeld ?_ ?_
                      rotate_left
                      · first
                        | (refine Or.inr ⟨by rfl, ?_⟩; with_reducible rfl)
                        | (refine Or.inl ⟨by rfl, ?_⟩
                           rintro u ⟨g0, g1, g2, g3, g4, g5⟩
                           go_simp
                           with_reducible rfl)
                      rotate_left
                      · simp only [Act.put, List.setIfInBounds_toArray, List.set_cons_zero, List.set_cons_succ, i64_w, i32_w]
                        rfl
                      refine pure_ (i := 15) (N := some 70) (v := ?_) (a' := ?_) #[true, true, true, true, true, true, true, true, true, true, true, true, true, true, true, true, false, false, false, false, false, false, false, false, false, false, false, false, false, false, false, false] rfl rfl (by kernel_rfl) (fun _ _ _ h => h) ?_ ?_ ?_
                      rotate_left
                      · first
                        | (refine Or.inr ⟨by rfl, ?_⟩; with_reducible rfl)
                        | (refine Or.inl ⟨by rfl, ?_⟩
                           intro u
                           go_simp
                           with_reducible rfl)
                      rotate_left
                      · simp only [Act.put, List.setIfInBounds_toArray, List.set_cons_zero, List.set_cons_succ, i64_w, i32_w]
                        rfl
                      refine take_ (i := 16) (N := some 71) (v := ?_) (a' := ?_) #[true, true, true, true, true, true, true, true, true, true, true, true, true, true, true, true, true, false, false, false, false, false, false, false, false, false, false, false, false, false, false, false] rfl rfl (by kernel_rfl) (fun _ _ _ h => h) ?_ hHeld ?_ ?_
                      rotate_left
                      · first
                        | (refine Or.inr ⟨by rfl, ?_⟩; with_reducible rfl)
                        | (refine Or.inl ⟨by rfl, ?_⟩
                           rintro u ⟨g0, g1, g2, g3, g4, g5⟩
                           go_simp
                           with_reducible rfl)
                      rotate_left
                      · simp only [Act.put, List.setIfInBounds_toArray, List.set_cons_zero, List.set_cons_succ, i64_w, i32_w]
                        rfl
                      refine pure_ (i := 17) (N := some 72) (v := ?_) (a' := ?_) #[true, true, true, true, true, true, true, true, true, true, true, true, true, true, true, true, true, true, false, false, false, false, false, false, false, false, false, false, false, false, false, false] rfl rfl (by kernel_rfl) (fun _ _ _ h => h) ?_ ?_ ?_
                      rotate_left
                      · first
                        | (refine Or.inr ⟨by rfl, ?_⟩; with_reducible rfl)
                        | (refine Or.inl ⟨by rfl, ?_⟩
                           intro u
                           go_simp
                           with_reducible rfl)
                      rotate_left
                      · simp only [Act.put, List.setIfInBounds_toArray, List.set_cons_zero, List.set_cons_succ, i64_w, i32_w]
                        rfl
                      refine pure_ (i := 18) (N := some 73) (v := ?_) (a' := ?_) #[true, true, true, true, true, true, true, true, true, true, true, true, true, true, true, true, true, true, true, false, false, false, false, false, false, false, false, false, false, false, false, false] rfl rfl (by kernel_rfl) (fun _ _ _ h => h) ?_ ?_ ?_
                      rotate_left
                      · first
                        | (refine Or.inr ⟨by rfl, ?_⟩; with_reducible rfl)
                        | (refine Or.inl ⟨by rfl, ?_⟩
                           intro u
                           go_simp
                           with_reducible rfl)
                      rotate_left
                      · simp only [Act.put, List.setIfInBounds_toArray, List.set_cons_zero, List.set_cons_succ, i64_w, i32_w]
                        rfl
                      refine pure_ (i := 19) (N := some 74) (v := ?_) (a' := ?_) #[true, true, true, true, true, true, true, true, true, true, true, true, true, true, true, true, true, true, true, true, false, false, false, false, false, false, false, false, false, false, false, false] rfl rfl (by kernel_rfl) (fun _ _ _ h => h) ?_ ?_ ?_
                      rotate_left
                      · first
                        | (refine Or.inr ⟨by rfl, ?_⟩; with_reducible rfl)
                        | (refine Or.inl ⟨by rfl, ?_⟩
                           intro u
                           go_simp
                           with_reducible rfl)
                      rotate_left
                      · simp only [Act.put, List.setIfInBounds_toArray, List.set_cons_zero, List.set_cons_succ, i64_w, i32_w]
                        rfl
                      refine pure_ (i := 20) (N := some 75) (v := ?_) (a' := ?_) #[true, true, true, true, true, true, true, true, true, true, true, true, true, true, true, true, true, true, true, true, true, false, false, false, false, false, false, false, false, false, false, false] rfl rfl (by kernel_rfl) (fun _ _ _ h => h) ?_ ?_ ?_
                      rotate_left
                      · first
                        | (refine Or.inr ⟨by rfl, ?_⟩; with_reducible rfl)
                        | (refine Or.inl ⟨by rfl, ?_⟩
                           intro u
                           go_simp
                           with_reducible rfl)
                      rotate_left
                      · simp only [Act.put, List.setIfInBounds_toArray, List.set_cons_zero, List.set_cons_succ, i64_w, i32_w]
                        rfl
                      refine pure_ (i := 21) (N := some 76) (v := ?_) (a' := ?_) #[true, true, true, true, true, true, true, true, true, true, true, true, true, true, true, true, true, true, true, true, true, true, false, false, false, false, false, false, false, false, false, false] rfl rfl (by kernel_rfl) (fun _ _ _ h => h) ?_ ?_ ?_
                      rotate_left
                      · first
                        | (refine Or.inr ⟨by rfl, ?_⟩; with_reducible rfl)
                        | (refine Or.inl ⟨by rfl, ?_⟩
                           intro u
                           go_simp
                           with_reducible rfl)
                      rotate_left
                      · simp only [Act.put, List.setIfInBounds_toArray, List.set_cons_zero, List.set_cons_succ, i64_w, i32_w]
                        rfl
                      refine take_ (i := 22) (N := some 77) (v := ?_) (a' := ?_) #[true, true, true, true, true, true, true, true, true, true, true, true, true, true, true, true, true, true, true, true, true, true, true, false, false, false, false, false, false, false, false, false] rfl rfl (by kernel_rfl) (fun _ _ _ h => h) ?_ hHeld ?_ ?_
                      rotate_left
                      · first
                        | (refine Or.inr ⟨by rfl, ?_⟩; with_reducible rfl)
                        | (refine Or.inl ⟨by rfl, ?_⟩
                           rintro u ⟨g0, g1, g2, g3, g4, g5⟩
                           go_simp
                           with_reducible rfl)
                      rotate_left
                      · simp only [Act.put, List.setIfInBounds_toArray, List.set_cons_zero, List.set_cons_succ, i64_w, i32_w]
                        rfl
                      refine pure_ (i := 23) (N := some 78) (v := ?_) (a' := ?_) #[true, true, true, true, true, true, true, true, true, true, true, true, true, true, true, true, true, true, true, true, true, true, true, true, false, false, false, false, false, false, false, false] rfl rfl (by kernel_rfl) (fun _ _ _ h => h) ?_ ?_ ?_
                      rotate_left
                      · first
                        | (refine Or.inr ⟨by rfl, ?_⟩; with_reducible rfl)
                        | (refine Or.inl ⟨by rfl, ?_⟩
                           intro u
                           go_simp
                           with_reducible rfl)
                      rotate_left
                      · simp only [Act.put, List.setIfInBounds_toArray, List.set_cons_zero, List.set_cons_succ, i64_w, i32_w]
                        rfl
                      refine take_ (i := 24) (N := some 79) (v := ?_) (a' := ?_) #[true, true, true, true, true, true, true, true, true, true, true, true, true, true, true, true, true, true, true, true, true, true, true, true, true, false, false, false, false, false, false, false] rfl rfl (by kernel_rfl) (fun _ _ _ h => h) ?_ hHeld ?_ ?_
                      rotate_left
                      · first
                        | (refine Or.inr ⟨by rfl, ?_⟩; with_reducible rfl)
                        | (refine Or.inl ⟨by rfl, ?_⟩
                           rintro u ⟨g0, g1, g2, g3, g4, g5⟩
                           go_simp
                           with_reducible rfl)
                      rotate_left
                      · simp only [Act.put, List.setIfInBounds_toArray, List.set_cons_zero, List.set_cons_succ, i64_w, i32_w]
                        rfl
                      refine pure_ (i := 25) (N := some 80) (v := ?_) (a' := ?_) #[true, true, true, true, true, true, true, true, true, true, true, true, true, true, true, true, true, true, true, true, true, true, true, true, true, true, false, false, false, false, false, false] rfl rfl (by kernel_rfl) (fun _ _ _ h => h) ?_ ?_ ?_
                      rotate_left
                      · first
                        | (refine Or.inr ⟨by rfl, ?_⟩; with_reducible rfl)
                        | (refine Or.inl ⟨by rfl, ?_⟩
                           intro u
                           go_simp
                           with_reducible rfl)
                      rotate_left
                      · simp only [Act.put, List.setIfInBounds_toArray, List.set_cons_zero, List.set_cons_succ, i64_w, i32_w]
                        rfl
                      refine pure_ (i := 26) (N := some 81) (v := ?_) (a' := ?_) #[true, true, true, true, true, true, true, true, true, true, true, true, true, true, true, true, true, true, true, true, true, true, true, true, true, true, true, false, false, false, false, false] rfl rfl (by kernel_rfl) (fun _ _ _ h => h) ?_ ?_ ?_
                      rotate_left
                      · first
                        | (refine Or.inr ⟨by rfl, ?_⟩; with_reducible rfl)
                        | (refine Or.inl ⟨by rfl, ?_⟩
                           intro u
                           go_simp
                           with_reducible rfl)
                      rotate_left
                      · simp only [Act.put, List.setIfInBounds_toArray, List.set_cons_zero, List.set_cons_succ, i64_w, i32_w]
                        rfl
                      refine pure_ (i := 27) (N := some 82) (v := ?_) (a' := ?_) #[true, true, true, true, true, true, true, true, true, true, true, true, true, true, true, true, true, true, true, true, true, true, true, true, true, true, true, true, false, false, false, false] rfl rfl (by kernel_rfl) (fun _ _ _ h => h) ?_ ?_ ?_
                      rotate_left
                      · first
                        | (refine Or.inr ⟨by rfl, ?_⟩; with_reducible rfl)
                        | (refine Or.inl ⟨by rfl, ?_⟩
                           intro u
                           go_simp
                           with_reducible rfl)
                      rotate_left
                      · simp only [Act.put, List.setIfInBounds_toArray, List.set_cons_zero, List.set_cons_succ, i64_w, i32_w]
                        rfl
                      refine pure_ (i := 28) (N := some 83) (v := ?_) (a' := ?_) #[true, true, true, true, true, true, true, true, true, true, true, true, true, true, true, true, true, true, true, true, true, true, true, true, true, true, true, true, true, false, false, false] rfl rfl (by kernel_rfl) (fun _ _ _ h => h) (Or.inl ⟨by rfl, ?_⟩) ?_ ?_
                      rotate_left
                      · intro u
                        go_simp
                        with_reducible rfl
                      rotate_left
                      · simp only [Act.put, List.setIfInBounds_toArray, List.set_cons_zero, List.set_cons_succ, i64_w, i32_w]
                        rfl
                      refine pure_ (i := 29) (N := some 84) (v := ?_) (a' := ?_) #[true, true, true, true, true, true, true, true, true, true, true, true, true, true, true, true, true, true, true, true, true, true, true, true, true, true, true, true, true, true, false, false] rfl rfl (by kernel_rfl) (fun _ _ _ h => h) (Or.inl ⟨by rfl, ?_⟩) ?_ ?_
                      rotate_left
                      · intro u
                        go_simp
                        with_reducible rfl
                      rotate_left
                      · simp only [Act.put, List.setIfInBounds_toArray, List.set_cons_zero, List.set_cons_succ, i64_w, i32_w]
                        rfl
                      refine pure_ (i := 30) (N := some 85) (v := ?_) (a' := ?_) #[true, true, true, true, true, true, true, true, true, true, true, true, true, true, true, true, true, true, true, true, true, true, true, true, true, true, true, true, true, true, true, false] rfl rfl (by kernel_rfl) (fun _ _ _ h => h) (Or.inl ⟨by rfl, ?_⟩) ?_ ?_
                      rotate_left
                      · intro u
                        go_simp
                        with_reducible rfl
                      rotate_left
                      · simp only [Act.put, List.setIfInBounds_toArray, List.set_cons_zero, List.set_cons_succ, i64_w, i32_w]
                        rfl
                      refine last_ (i := 31) (N := none) #[true, true, true, true, true, true, true, true, true, true, true, true, true, true, true, true, true, true, true, true, true, true, true, true, true, true, true, true, true, true, true, true] rfl rfl (by kernel_rfl) (by decide) (fun K hK => ?_)
                      rw [if_pos (by rfl)]
                      go_simp
                      refine hK.out _ _ ?_
                      clear hK K
                      refine done_ (by kernel_rfl) ?_
                      go_wp2
                      go_roundg gk
                      case measure => omega
                      case rel => exact ⟨k + 1, by omega, by go_num, ⟨(SEC.out [(1, .bool true)] (by rw [HV.out]; rfl) (by simp [Value.oneCell'])).below (below_drew (Below.refl _ _))⟩⟩
                  · have t1b : (m.typ != s.f1) = true := bne_iff_ne.mpr t1
                    have HV := Aside0.mk (show kndF s m = { m with clash := true } from by unfold kndF; rw [← HV0.out.1, ← HV0.out.2]; simp [t1])
                    clear t1
                    go_wp2
                    refine start_ (n := 32) (S := fun u => u.cell? ⟨gt, i * 4, none⟩ = some (.bool true) ∧ u.cell? ⟨gt, i * 4 + 1, none⟩ = some (.bool false) ∧ u.cell? ⟨gt, i * 4 + 2, none⟩ = some (.int .i64 m.typ) ∧ u.cell? ⟨gt, i * 4 + 3, none⟩ = some (.int .i64 m.flags) ∧ u.cell? ⟨gs, 1, none⟩ = some (.int .i64 s.f1) ∧ u.cell? ⟨gs, 2, none⟩ = some (.int .i64 s.f2)) (ds := [31]) #[false, false, false, false, false, false, false, false, false, false, false, false, false, false, false, false, false, false, false, false, false, false, false, false, false, false, false, false, false, false, false, false] (by kernel_rfl) rfl rfl ?_ (fun hHeld => ?_)
                    case refine_1 => exact ⟨d0, d1, d2, d3, z1, z2⟩
                    refine pure_ (i := 0) (N := some 55) (v := ?_) (a' := ?_) #[true, false, false, false, false, false, false, false, false, false, false, false, false, false, false, false, false, false, false, false, false, false, false, false, false, false, false, false, false, false, false, false] rfl rfl (by kernel_rfl) (fun _ _ _ h => h) (Or.inl ⟨by rfl, ?_⟩) ?_ ?_
                    rotate_left
                    · intro u
                      go_simp
                      with_reducible rfl
                    rotate_left
                    · simp only [Act.put, List.setIfInBounds_toArray, List.set_cons_zero, List.set_cons_succ, i64_w, i32_w]
                      rfl
                    refine pure_ (i := 1) (N := some 56) (v := ?_) (a' := ?_) #[true, true, false, false, false, false, false, false, false, false, false, false, false, false, false, false, false, false, false, false, false, false, false, false, false, false, false, false, false, false, false, false] rfl rfl (by kernel_rfl) (fun _ _ _ h => h) (Or.inl ⟨by rfl, ?_⟩) ?_ ?_
                    rotate_left
                    · intro u
                      go_simp
                      with_reducible rfl
                    rotate_left
                    · simp only [Act.put, List.setIfInBounds_toArray, List.set_cons_zero, List.set_cons_succ, i64_w, i32_w]
                      rfl
                    refine pure_ (i := 2) (N := some 57) (v := ?_) (a' := ?_) #[true, true, true, false, false, false, false, false, false, false, false, false, false, false, false, false, false, false, false, false, false, false, false, false, false, false, false, false, false, false, false, false] rfl rfl (by kernel_rfl) (fun _ _ _ h => h) (Or.inl ⟨by rfl, ?_⟩) ?_ ?_
                    rotate_left
                    · intro u
                      go_simp
                      with_reducible rfl
                    rotate_left
                    · simp only [Act.put, List.setIfInBounds_toArray, List.set_cons_zero, List.set_cons_succ, i64_w, i32_w]
                      rfl
                    refine pure_ (i := 3) (N := some 58) (v := ?_) (a' := ?_) #[true, true, true, true, false, false, false, false, false, false, false, false, false, false, false, false, false, false, false, false, false, false, false, false, false, false, false, false, false, false, false, false] rfl rfl (by kernel_rfl) (fun _ _ _ h => h) (Or.inl ⟨by rfl, ?_⟩) ?_ ?_
                    rotate_left
                    · intro u
                      go_simp
                      with_reducible rfl
                    rotate_left
                    · simp only [Act.put, List.setIfInBounds_toArray, List.set_cons_zero, List.set_cons_succ, i64_w, i32_w]
                      rfl
                    refine take_ (i := 4) (N := some 59) (v := ?_) (a' := ?_) #[true, true, true, true, true, false, false, false, false, false, false, false, false, false, false, false, false, false, false, false, false, false, false, false, false, false, false, false, false, false, false, false] rfl rfl (by kernel_rfl) (fun _ _ _ h => h) (Or.inl ⟨by rfl, ?_⟩) hHeld ?_ ?_
                    rotate_left
                    · rintro u ⟨g0, g1, g2, g3, g4, g5⟩
                      go_simp
                      with_reducible rfl
                    rotate_left
                    · simp only [Act.put, List.setIfInBounds_toArray, List.set_cons_zero, List.set_cons_succ, i64_w, i32_w]
                      rfl
                    refine pure_ (i := 5) (N := some 60) (v := ?_) (a' := ?_) #[true, true, true, true, true, true, false, false, false, false, false, false, false, false, false, false, false, false, false, false, false, false, false, false, false, false, false, false, false, false, false, false] rfl rfl (by kernel_rfl) (fun _ _ _ h => h) (Or.inl ⟨by rfl, ?_⟩) ?_ ?_
                    rotate_left
                    · intro u
                      go_simp
                      with_reducible rfl
                    rotate_left
                    · simp only [Act.put, List.setIfInBounds_toArray, List.set_cons_zero, List.set_cons_succ, i64_w, i32_w]
                      rfl
                    refine pure_ (i := 6) (N := some 61) (v := ?_) (a' := ?_) #[true, true, true, true, true, true, true, false, false, false, false, false, false, false, false, false, false, false, false, false, false, false, false, false, false, false, false, false, false, false, false, false] rfl rfl (by kernel_rfl) (fun _ _ _ h => h) ?_ ?_ ?_
                    rotate_left
                    · first
                      | (refine Or.inr ⟨by rfl, ?_⟩; with_reducible rfl)
                      | (refine Or.inl ⟨by rfl, ?_⟩
                         intro u
                         go_simp
                         with_reducible rfl)
                    rotate_left
                    · simp only [Act.put, List.setIfInBounds_toArray, List.set_cons_zero, List.set_cons_succ, i64_w, i32_w]
                      rfl
                    refine pure_ (i := 7) (N := some 62) (v := ?_) (a' := ?_) #[true, true, true, true, true, true, true, true, false, false, false, false, false, false, false, false, false, false, false, false, false, false, false, false, false, false, false, false, false, false, false, false] rfl rfl (by kernel_rfl) (fun _ _ _ h => h) ?_ ?_ ?_
                    rotate_left
                    · first
                      | (refine Or.inr ⟨by rfl, ?_⟩; with_reducible rfl)
                      | (refine Or.inl ⟨by rfl, ?_⟩
                         intro u
                         go_simp
                         with_reducible rfl)
                    rotate_left
                    · simp only [Act.put, List.setIfInBounds_toArray, List.set_cons_zero, List.set_cons_succ, i64_w, i32_w]
                      rfl
                    refine pure_ (i := 8) (N := some 63) (v := ?_) (a' := ?_) #[true, true, true, true, true, true, true, true, true, false, false, false, false, false, false, false, false, false, false, false, false, false, false, false, false, false, false, false, false, false, false, false] rfl rfl (by kernel_rfl) (fun _ _ _ h => h) ?_ ?_ ?_
                    rotate_left
                    · first
                      | (refine Or.inr ⟨by rfl, ?_⟩; with_reducible rfl)
                      | (refine Or.inl ⟨by rfl, ?_⟩
                         intro u
                         go_simp
                         with_reducible rfl)
                    rotate_left
                    · simp only [Act.put, List.setIfInBounds_toArray, List.set_cons_zero, List.set_cons_succ, i64_w, i32_w]
                      rfl
                    refine take_ (i := 9) (N := some 64) (v := ?_) (a' := ?_) #[true, true, true, true, true, true, true, true, true, true, false, false, false, false, false, false, false, false, false, false, false, false, false, false, false, false, false, false, false, false, false, false] rfl rfl (by kernel_rfl) (fun _ _ _ h => h) ?_ hHeld ?_ ?_
                    rotate_left
                    · first
                      | (refine Or.inr ⟨by rfl, ?_⟩; with_reducible rfl)
                      | (refine Or.inl ⟨by rfl, ?_⟩
                         rintro u ⟨g0, g1, g2, g3, g4, g5⟩
                         go_simp
                         with_reducible rfl)
                    rotate_left
                    · simp only [Act.put, List.setIfInBounds_toArray, List.set_cons_zero, List.set_cons_succ, i64_w, i32_w]
                      rfl
                    refine pure_ (i := 10) (N := some 65) (v := ?_) (a' := ?_) #[true, true, true, true, true, true, true, true, true, true, true, false, false, false, false, false, false, false, false, false, false, false, false, false, false, false, false, false, false, false, false, false] rfl rfl (by kernel_rfl) (fun _ _ _ h => h) ?_ ?_ ?_
                    rotate_left
                    · first
                      | (refine Or.inr ⟨by rfl, ?_⟩; with_reducible rfl)
                      | (refine Or.inl ⟨by rfl, ?_⟩
                         intro u
                         go_simp
                         with_reducible rfl)
                    rotate_left
                    · simp only [Act.put, List.setIfInBounds_toArray, List.set_cons_zero, List.set_cons_succ, i64_w, i32_w]
                      rfl
                    refine pure_ (i := 11) (N := some 66) (v := ?_) (a' := ?_) #[true, true, true, true, true, true, true, true, true, true, true, true, false, false, false, false, false, false, false, false, false, false, false, false, false, false, false, false, false, false, false, false] rfl rfl (by kernel_rfl) (fun _ _ _ h => h) ?_ ?_ ?_
                    rotate_left
                    · first
                      | (refine Or.inr ⟨by rfl, ?_⟩; with_reducible rfl)
                      | (refine Or.inl ⟨by rfl, ?_⟩
                         intro u
                         go_simp
                         with_reducible rfl)
                    rotate_left
                    · simp only [Act.put, List.setIfInBounds_toArray, List.set_cons_zero, List.set_cons_succ, i64_w, i32_w]
                      rfl
                    refine pure_ (i := 12) (N := some 67) (v := ?_) (a' := ?_) #[true, true, true, true, true, true, true, true, true, true, true, true, true, false, false, false, false, false, false, false, false, false, false, false, false, false, false, false, false, false, false, false] rfl rfl (by kernel_rfl) (fun _ _ _ h => h) ?_ ?_ ?_
                    rotate_left
                    · first
                      | (refine Or.inr ⟨by rfl, ?_⟩; with_reducible rfl)
                      | (refine Or.inl ⟨by rfl, ?_⟩
                         intro u
                         go_simp
                         with_reducible rfl)
                    rotate_left
                    · simp only [Act.put, List.setIfInBounds_toArray, List.set_cons_zero, List.set_cons_succ, i64_w, i32_w]
                      rfl
                    refine pure_ (i := 13) (N := some 68) (v := ?_) (a' := ?_) #[true, true, true, true, true, true, true, true, true, true, true, true, true, true, false, false, false, false, false, false, false, false, false, false, false, false, false, false, false, false, false, false] rfl rfl (by kernel_rfl) (fun _ _ _ h => h) ?_ ?_ ?_
                    rotate_left
                    · first
                      | (refine Or.inr ⟨by rfl, ?_⟩; with_reducible rfl)
                      | (refine Or.inl ⟨by rfl, ?_⟩
                         intro u
                         go_simp
                         with_reducible rfl)
                    rotate_left
                    · simp only [Act.put, List.setIfInBounds_toArray, List.set_cons_zero, List.set_cons_succ, i64_w, i32_w]
                      rfl
                    refine take_ (i := 14) (N := some 69) (v := ?_) (a' := ?_) #[true, true, true, true, true, true, true, true, true, true, true, true, true, true, true, false, false, false, false, false, false, false, false, false, false, false, false, false, false, false, false, false] rfl rfl (by kernel_rfl) (fun _ _ _ h => h) ?_ hHeld ?_ ?_
                    rotate_left
                    · first
                      | (refine Or.inr ⟨by rfl, ?_⟩; with_reducible rfl)
                      | (refine Or.inl ⟨by rfl, ?_⟩
                         rintro u ⟨g0, g1, g2, g3, g4, g5⟩
                         go_simp
                         with_reducible rfl)
                    rotate_left
                    · simp only [Act.put, List.setIfInBounds_toArray, List.set_cons_zero, List.set_cons_succ, i64_w, i32_w]
                      rfl
                    refine pure_ (i := 15) (N := some 70) (v := ?_) (a' := ?_) #[true, true, true, true, true, true, true, true, true, true, true, true, true, true, true, true, false, false, false, false, false, false, false, false, false, false, false, false, false, false, false, false] rfl rfl (by kernel_rfl) (fun _ _ _ h => h) ?_ ?_ ?_
                    rotate_left
                    · first
                      | (refine Or.inr ⟨by rfl, ?_⟩; with_reducible rfl)
                      | (refine Or.inl ⟨by rfl, ?_⟩
                         intro u
                         go_simp
                         with_reducible rfl)
                    rotate_left
                    · simp only [Act.put, List.setIfInBounds_toArray, List.set_cons_zero, List.set_cons_succ, i64_w, i32_w]
                      rfl
                    refine take_ (i := 16) (N := some 71) (v := ?_) (a' := ?_) #[true, true, true, true, true, true, true, true, true, true, true, true, true, true, true, true, true, false, false, false, false, false, false, false, false, false, false, false, false, false, false, false] rfl rfl (by kernel_rfl) (fun _ _ _ h => h) ?_ hHeld ?_ ?_
                    rotate_left
                    · first
                      | (refine Or.inr ⟨by rfl, ?_⟩; with_reducible rfl)
                      | (refine Or.inl ⟨by rfl, ?_⟩
                         rintro u ⟨g0, g1, g2, g3, g4, g5⟩
                         go_simp
                         with_reducible rfl)
                    rotate_left
                    · simp only [Act.put, List.setIfInBounds_toArray, List.set_cons_zero, List.set_cons_succ, i64_w, i32_w]
                      rfl
                    refine pure_ (i := 17) (N := some 72) (v := ?_) (a' := ?_) #[true, true, true, true, true, true, true, true, true, true, true, true, true, true, true, true, true, true, false, false, false, false, false, false, false, false, false, false, false, false, false, false] rfl rfl (by kernel_rfl) (fun _ _ _ h => h) ?_ ?_ ?_
                    rotate_left
                    · first
                      | (refine Or.inr ⟨by rfl, ?_⟩; with_reducible rfl)
                      | (refine Or.inl ⟨by rfl, ?_⟩
                         intro u
                         go_simp
                         with_reducible rfl)
                    rotate_left
                    · simp only [Act.put, List.setIfInBounds_toArray, List.set_cons_zero, List.set_cons_succ, i64_w, i32_w]
                      rfl
                    refine pure_ (i := 18) (N := some 73) (v := ?_) (a' := ?_) #[true, true, true, true, true, true, true, true, true, true, true, true, true, true, true, true, true, true, true, false, false, false, false, false, false, false, false, false, false, false, false, false] rfl rfl (by kernel_rfl) (fun _ _ _ h => h) ?_ ?_ ?_
                    rotate_left
                    · first
                      | (refine Or.inr ⟨by rfl, ?_⟩; with_reducible rfl)
                      | (refine Or.inl ⟨by rfl, ?_⟩
                         intro u
                         go_simp
                         with_reducible rfl)
                    rotate_left
                    · simp only [Act.put, List.setIfInBounds_toArray, List.set_cons_zero, List.set_cons_succ, i64_w, i32_w]
                      rfl
                    refine pure_ (i := 19) (N := some 74) (v := ?_) (a' := ?_) #[true, true, true, true, true, true, true, true, true, true, true, true, true, true, true, true, true, true, true, true, false, false, false, false, false, false, false, false, false, false, false, false] rfl rfl (by kernel_rfl) (fun _ _ _ h => h) ?_ ?_ ?_
                    rotate_left
                    · first
                      | (refine Or.inr ⟨by rfl, ?_⟩; with_reducible rfl)
                      | (refine Or.inl ⟨by rfl, ?_⟩
                         intro u
                         go_simp
                         with_reducible rfl)
                    rotate_left
                    · simp only [Act.put, List.setIfInBounds_toArray, List.set_cons_zero, List.set_cons_succ, i64_w, i32_w]
                      rfl
                    refine pure_ (i := 20) (N := some 75) (v := ?_) (a' := ?_) #[true, true, true, true, true, true, true, true, true, true, true, true, true, true, true, true, true, true, true, true, true, false, false, false, false, false, false, false, false, false, false, false] rfl rfl (by kernel_rfl) (fun _ _ _ h => h) ?_ ?_ ?_
                    rotate_left
                    · first
                      | (refine Or.inr ⟨by rfl, ?_⟩; with_reducible rfl)
                      | (refine Or.inl ⟨by rfl, ?_⟩
                         intro u
                         go_simp
                         with_reducible rfl)
                    rotate_left
                    · simp only [Act.put, List.setIfInBounds_toArray, List.set_cons_zero, List.set_cons_succ, i64_w, i32_w]
                      rfl
                    refine pure_ (i := 21) (N := some 76) (v := ?_) (a' := ?_) #[true, true, true, true, true, true, true, true, true, true, true, true, true, true, true, true, true, true, true, true, true, true, false, false, false, false, false, false, false, false, false, false] rfl rfl (by kernel_rfl) (fun _ _ _ h => h) ?_ ?_ ?_
                    rotate_left
                    · first
                      | (refine Or.inr ⟨by rfl, ?_⟩; with_reducible rfl)
                      | (refine Or.inl ⟨by rfl, ?_⟩
                         intro u
                         go_simp
                         with_reducible rfl)
                    rotate_left
                    · simp only [Act.put, List.setIfInBounds_toArray, List.set_cons_zero, List.set_cons_succ, i64_w, i32_w]
                      rfl
                    refine take_ (i := 22) (N := some 77) (v := ?_) (a' := ?_) #[true, true, true, true, true, true, true, true, true, true, true, true, true, true, true, true, true, true, true, true, true, true, true, false, false, false, false, false, false, false, false, false] rfl rfl (by kernel_rfl) (fun _ _ _ h => h) ?_ hHeld ?_ ?_
                    rotate_left
                    · first
                      | (refine Or.inr ⟨by rfl, ?_⟩; with_reducible rfl)
                      | (refine Or.inl ⟨by rfl, ?_⟩
                         rintro u ⟨g0, g1, g2, g3, g4, g5⟩
                         go_simp
                         with_reducible rfl)
                    rotate_left
                    · simp only [Act.put, List.setIfInBounds_toArray, List.set_cons_zero, List.set_cons_succ, i64_w, i32_w]
                      rfl
                    refine pure_ (i := 23) (N := some 78) (v := ?_) (a' := ?_) #[true, true, true, true, true, true, true, true, true, true, true, true, true, true, true, true, true, true, true, true, true, true, true, true, false, false, false, false, false, false, false, false] rfl rfl (by kernel_rfl) (fun _ _ _ h => h) ?_ ?_ ?_
                    rotate_left
                    · first
                      | (refine Or.inr ⟨by rfl, ?_⟩; with_reducible rfl)
                      | (refine Or.inl ⟨by rfl, ?_⟩
                         intro u
                         go_simp
                         with_reducible rfl)
                    rotate_left
                    · simp only [Act.put, List.setIfInBounds_toArray, List.set_cons_zero, List.set_cons_succ, i64_w, i32_w]
                      rfl
                    refine take_ (i := 24) (N := some 79) (v := ?_) (a' := ?_) #[true, true, true, true, true, true, true, true, true, true, true, true, true, true, true, true, true, true, true, true, true, true, true, true, true, false, false, false, false, false, false, false] rfl rfl (by kernel_rfl) (fun _ _ _ h => h) ?_ hHeld ?_ ?_
                    rotate_left
                    · first
                      | (refine Or.inr ⟨by rfl, ?_⟩; with_reducible rfl)
                      | (refine Or.inl ⟨by rfl, ?_⟩
                         rintro u ⟨g0, g1, g2, g3, g4, g5⟩
                         go_simp
                         with_reducible rfl)
                    rotate_left
                    · simp only [Act.put, List.setIfInBounds_toArray, List.set_cons_zero, List.set_cons_succ, i64_w, i32_w]
                      rfl
                    refine pure_ (i := 25) (N := some 80) (v := ?_) (a' := ?_) #[true, true, true, true, true, true, true, true, true, true, true, true, true, true, true, true, true, true, true, true, true, true, true, true, true, true, false, false, false, false, false, false] rfl rfl (by kernel_rfl) (fun _ _ _ h => h) ?_ ?_ ?_
                    rotate_left
                    · first
                      | (refine Or.inr ⟨by rfl, ?_⟩; with_reducible rfl)
                      | (refine Or.inl ⟨by rfl, ?_⟩
                         intro u
                         go_simp
                         with_reducible rfl)
                    rotate_left
                    · simp only [Act.put, List.setIfInBounds_toArray, List.set_cons_zero, List.set_cons_succ, i64_w, i32_w]
                      rfl
                    refine pure_ (i := 26) (N := some 81) (v := ?_) (a' := ?_) #[true, true, true, true, true, true, true, true, true, true, true, true, true, true, true, true, true, true, true, true, true, true, true, true, true, true, true, false, false, false, false, false] rfl rfl (by kernel_rfl) (fun _ _ _ h => h) ?_ ?_ ?_
                    rotate_left
                    · first
                      | (refine Or.inr ⟨by rfl, ?_⟩; with_reducible rfl)
                      | (refine Or.inl ⟨by rfl, ?_⟩
                         intro u
                         go_simp
                         with_reducible rfl)
                    rotate_left
                    · simp only [Act.put, List.setIfInBounds_toArray, List.set_cons_zero, List.set_cons_succ, i64_w, i32_w]
                      rfl
                    refine pure_ (i := 27) (N := some 82) (v := ?_) (a' := ?_) #[true, true, true, true, true, true, true, true, true, true, true, true, true, true, true, true, true, true, true, true, true, true, true, true, true, true, true, true, false, false, false, false] rfl rfl (by kernel_rfl) (fun _ _ _ h => h) ?_ ?_ ?_
                    rotate_left
                    · first
                      | (refine Or.inr ⟨by rfl, ?_⟩; with_reducible rfl)
                      | (refine Or.inl ⟨by rfl, ?_⟩
                         intro u
                         go_simp
                         with_reducible rfl)
                    rotate_left
                    · simp only [Act.put, List.setIfInBounds_toArray, List.set_cons_zero, List.set_cons_succ, i64_w, i32_w]
                      rfl
                    refine pure_ (i := 28) (N := some 83) (v := ?_) (a' := ?_) #[true, true, true, true, true, true, true, true, true, true, true, true, true, true, true, true, true, true, true, true, true, true, true, true, true, true, true, true, true, false, false, false] rfl rfl (by kernel_rfl) (fun _ _ _ h => h) (Or.inl ⟨by rfl, ?_⟩) ?_ ?_
                    rotate_left
                    · intro u
                      go_simp
                      with_reducible rfl
                    rotate_left
                    · simp only [Act.put, List.setIfInBounds_toArray, List.set_cons_zero, List.set_cons_succ, i64_w, i32_w]
                      rfl
                    refine pure_ (i := 29) (N := some 84) (v := ?_) (a' := ?_) #[true, true, true, true, true, true, true, true, true, true, true, true, true, true, true, true, true, true, true, true, true, true, true, true, true, true, true, true, true, true, false, false] rfl rfl (by kernel_rfl) (fun _ _ _ h => h) (Or.inl ⟨by rfl, ?_⟩) ?_ ?_
                    rotate_left
                    · intro u
                      go_simp
                      with_reducible rfl
                    rotate_left
                    · simp only [Act.put, List.setIfInBounds_toArray, List.set_cons_zero, List.set_cons_succ, i64_w, i32_w]
                      rfl
                    refine pure_ (i := 30) (N := some 85) (v := ?_) (a' := ?_) #[true, true, true, true, true, true, true, true, true, true, true, true, true, true, true, true, true, true, true, true, true, true, true, true, true, true, true, true, true, true, true, false] rfl rfl (by kernel_rfl) (fun _ _ _ h => h) (Or.inl ⟨by rfl, ?_⟩) ?_ ?_
                    rotate_left
                    · intro u
                      go_simp
                      with_reducible rfl
                    rotate_left
                    · simp only [Act.put, List.setIfInBounds_toArray, List.set_cons_zero, List.set_cons_succ, i64_w, i32_w]
                      rfl
                    refine last_ (i := 31) (N := none) #[true, true, true, true, true, true, true, true, true, true, true, true, true, true, true, true, true, true, true, true, true, true, true, true, true, true, true, true, true, true, true, true] rfl rfl (by kernel_rfl) (by decide) (fun K hK => ?_)
                    rw [if_pos (by rfl)]
                    go_simp
                    refine hK.out _ _ ?_
                    clear hK K
                    refine done_ (by kernel_rfl) ?_
                    go_wp2
                    go_roundg gk
                    case measure => omega
                    case rel => exact ⟨k + 1, by omega, by go_num, ⟨(SEC.out [(1, .bool true)] (by rw [HV.out]; rfl) (by simp [Value.oneCell'])).below (below_drew (Below.refl _ _))⟩⟩
              | false =>
                have D := Aside0.mk (And.intro d0 (And.intro d2 d3))
                have E := Aside0.mk (And.intro e0 (And.intro e2 e3))
                cases cl with
                | true =>
                  have HV := Aside0.mk (show kndF s m = { some := true, clash := true, typ := s.f1, flags := s.f2 } from by unfold kndF; rw [← HV0.out.1, ← HV0.out.2]; rfl)
                  go_wp2
                  refine start_ (n := 32) (S := fun u => u.cell? ⟨gt, i * 4, none⟩ = some (.bool false) ∧ u.cell? ⟨gt, i * 4 + 1, none⟩ = some (.bool true) ∧ u.cell? ⟨gt, i * 4 + 2, none⟩ = some (.int .i64 m.typ) ∧ u.cell? ⟨gt, i * 4 + 3, none⟩ = some (.int .i64 m.flags) ∧ u.cell? ⟨gs, 1, none⟩ = some (.int .i64 s.f1) ∧ u.cell? ⟨gs, 2, none⟩ = some (.int .i64 s.f2)) (ds := [31]) #[false, false, false, false, false, false, false, false, false, false, false, false, false, false, false, false, false, false, false, false, false, false, false, false, false, false, false, false, false, false, false, false] (by kernel_rfl) rfl rfl ?_ (fun hHeld => ?_)
                  case refine_1 => exact ⟨d0, d1, d2, d3, z1, z2⟩
                  refine pure_ (i := 0) (N := some 55) (v := ?_) (a' := ?_) #[true, false, false, false, false, false, false, false, false, false, false, false, false, false, false, false, false, false, false, false, false, false, false, false, false, false, false, false, false, false, false, false] rfl rfl (by kernel_rfl) (fun _ _ _ h => h) (Or.inl ⟨by rfl, ?_⟩) ?_ ?_
                  rotate_left
                  · intro u
                    go_simp
                    with_reducible rfl
                  rotate_left
                  · simp only [Act.put, List.setIfInBounds_toArray, List.set_cons_zero, List.set_cons_succ, i64_w, i32_w]
                    rfl
                  refine pure_ (i := 1) (N := some 56) (v := ?_) (a' := ?_) #[true, true, false, false, false, false, false, false, false, false, false, false, false, false, false, false, false, false, false, false, false, false, false, false, false, false, false, false, false, false, false, false] rfl rfl (by kernel_rfl) (fun _ _ _ h => h) (Or.inl ⟨by rfl, ?_⟩) ?_ ?_
                  rotate_left
                  · intro u
                    go_simp
                    with_reducible rfl
                  rotate_left
                  · simp only [Act.put, List.setIfInBounds_toArray, List.set_cons_zero, List.set_cons_succ, i64_w, i32_w]
                    rfl
                  refine pure_ (i := 2) (N := some 57) (v := ?_) (a' := ?_) #[true, true, true, false, false, false, false, false, false, false, false, false, false, false, false, false, false, false, false, false, false, false, false, false, false, false, false, false, false, false, false, false] rfl rfl (by kernel_rfl) (fun _ _ _ h => h) (Or.inl ⟨by rfl, ?_⟩) ?_ ?_
                  rotate_left
                  · intro u
                    go_simp
                    with_reducible rfl
                  rotate_left
                  · simp only [Act.put, List.setIfInBounds_toArray, List.set_cons_zero, List.set_cons_succ, i64_w, i32_w]
                    rfl
                  refine pure_ (i := 3) (N := some 58) (v := ?_) (a' := ?_) #[true, true, true, true, false, false, false, false, false, false, false, false, false, false, false, false, false, false, false, false, false, false, false, false, false, false, false, false, false, false, false, false] rfl rfl (by kernel_rfl) (fun _ _ _ h => h) (Or.inl ⟨by rfl, ?_⟩) ?_ ?_
                  rotate_left
                  · intro u
                    go_simp
                    with_reducible rfl
                  rotate_left
                  · simp only [Act.put, List.setIfInBounds_toArray, List.set_cons_zero, List.set_cons_succ, i64_w, i32_w]
                    rfl
                  refine take_ (i := 4) (N := some 59) (v := ?_) (a' := ?_) #[true, true, true, true, true, false, false, false, false, false, false, false, false, false, false, false, false, false, false, false, false, false, false, false, false, false, false, false, false, false, false, false] rfl rfl (by kernel_rfl) (fun _ _ _ h => h) (Or.inl ⟨by rfl, ?_⟩) hHeld ?_ ?_
                  rotate_left
                  · rintro u ⟨g0, g1, g2, g3, g4, g5⟩
                    go_simp
                    with_reducible rfl
                  rotate_left
                  · simp only [Act.put, List.setIfInBounds_toArray, List.set_cons_zero, List.set_cons_succ, i64_w, i32_w]
                    rfl
                  refine pure_ (i := 5) (N := some 60) (v := ?_) (a' := ?_) #[true, true, true, true, true, true, false, false, false, false, false, false, false, false, false, false, false, false, false, false, false, false, false, false, false, false, false, false, false, false, false, false] rfl rfl (by kernel_rfl) (fun _ _ _ h => h) (Or.inl ⟨by rfl, ?_⟩) ?_ ?_
                  rotate_left
                  · intro u
                    go_simp
                    with_reducible rfl
                  rotate_left
                  · simp only [Act.put, List.setIfInBounds_toArray, List.set_cons_zero, List.set_cons_succ, i64_w, i32_w]
                    rfl
                  refine pure_ (i := 6) (N := some 61) (v := ?_) (a' := ?_) #[true, true, true, true, true, true, true, false, false, false, false, false, false, false, false, false, false, false, false, false, false, false, false, false, false, false, false, false, false, false, false, false] rfl rfl (by kernel_rfl) (fun _ _ _ h => h) ?_ ?_ ?_
                  rotate_left
                  · first
                    | (refine Or.inr ⟨by rfl, ?_⟩; with_reducible rfl)
                    | (refine Or.inl ⟨by rfl, ?_⟩
                       intro u
                       go_simp
                       with_reducible rfl)
                  rotate_left
                  · simp only [Act.put, List.setIfInBounds_toArray, List.set_cons_zero, List.set_cons_succ, i64_w, i32_w]
                    rfl
                  refine pure_ (i := 7) (N := some 62) (v := ?_) (a' := ?_) #[true, true, true, true, true, true, true, true, false, false, false, false, false, false, false, false, false, false, false, false, false, false, false, false, false, false, false, false, false, false, false, false] rfl rfl (by kernel_rfl) (fun _ _ _ h => h) ?_ ?_ ?_
                  rotate_left
                  · first
                    | (refine Or.inr ⟨by rfl, ?_⟩; with_reducible rfl)
                    | (refine Or.inl ⟨by rfl, ?_⟩
                       intro u
                       go_simp
                       with_reducible rfl)
                  rotate_left
                  · simp only [Act.put, List.setIfInBounds_toArray, List.set_cons_zero, List.set_cons_succ, i64_w, i32_w]
                    rfl
                  refine pure_ (i := 8) (N := some 63) (v := ?_) (a' := ?_) #[true, true, true, true, true, true, true, true, true, false, false, false, false, false, false, false, false, false, false, false, false, false, false, false, false, false, false, false, false, false, false, false] rfl rfl (by kernel_rfl) (fun _ _ _ h => h) ?_ ?_ ?_
                  rotate_left
                  · first
                    | (refine Or.inr ⟨by rfl, ?_⟩; with_reducible rfl)
                    | (refine Or.inl ⟨by rfl, ?_⟩
                       intro u
                       go_simp
                       with_reducible rfl)
                  rotate_left
                  · simp only [Act.put, List.setIfInBounds_toArray, List.set_cons_zero, List.set_cons_succ, i64_w, i32_w]
                    rfl
                  refine take_ (i := 9) (N := some 64) (v := ?_) (a' := ?_) #[true, true, true, true, true, true, true, true, true, true, false, false, false, false, false, false, false, false, false, false, false, false, false, false, false, false, false, false, false, false, false, false] rfl rfl (by kernel_rfl) (fun _ _ _ h => h) ?_ hHeld ?_ ?_
                  rotate_left
                  · first
                    | (refine Or.inr ⟨by rfl, ?_⟩; with_reducible rfl)
                    | (refine Or.inl ⟨by rfl, ?_⟩
                       rintro u ⟨g0, g1, g2, g3, g4, g5⟩
                       go_simp
                       with_reducible rfl)
                  rotate_left
                  · simp only [Act.put, List.setIfInBounds_toArray, List.set_cons_zero, List.set_cons_succ, i64_w, i32_w]
                    rfl
                  refine pure_ (i := 10) (N := some 65) (v := ?_) (a' := ?_) #[true, true, true, true, true, true, true, true, true, true, true, false, false, false, false, false, false, false, false, false, false, false, false, false, false, false, false, false, false, false, false, false] rfl rfl (by kernel_rfl) (fun _ _ _ h => h) ?_ ?_ ?_
                  rotate_left
                  · first
                    | (refine Or.inr ⟨by rfl, ?_⟩; with_reducible rfl)
                    | (refine Or.inl ⟨by rfl, ?_⟩
                       intro u
                       go_simp
                       with_reducible rfl)
                  rotate_left
                  · simp only [Act.put, List.setIfInBounds_toArray, List.set_cons_zero, List.set_cons_succ, i64_w, i32_w]
                    rfl
                  refine pure_ (i := 11) (N := some 66) (v := ?_) (a' := ?_) #[true, true, true, true, true, true, true, true, true, true, true, true, false, false, false, false, false, false, false, false, false, false, false, false, false, false, false, false, false, false, false, false] rfl rfl (by kernel_rfl) (fun _ _ _ h => h) ?_ ?_ ?_
                  rotate_left
                  · first
                    | (refine Or.inr ⟨by rfl, ?_⟩; with_reducible rfl)
                    | (refine Or.inl ⟨by rfl, ?_⟩
                       intro u
                       go_simp
                       with_reducible rfl)
                  rotate_left
                  · simp only [Act.put, List.setIfInBounds_toArray, List.set_cons_zero, List.set_cons_succ, i64_w, i32_w]
                    rfl
                  refine pure_ (i := 12) (N := some 67) (v := ?_) (a' := ?_) #[true, true, true, true, true, true, true, true, true, true, true, true, true, false, false, false, false, false, false, false, false, false, false, false, false, false, false, false, false, false, false, false] rfl rfl (by kernel_rfl) (fun _ _ _ h => h) ?_ ?_ ?_
                  rotate_left
                  · first
                    | (refine Or.inr ⟨by rfl, ?_⟩; with_reducible rfl)
                    | (refine Or.inl ⟨by rfl, ?_⟩
                       intro u
                       go_simp
                       with_reducible rfl)
                  rotate_left
                  · simp only [Act.put, List.setIfInBounds_toArray, List.set_cons_zero, List.set_cons_succ, i64_w, i32_w]
                    rfl
                  refine pure_ (i := 13) (N := some 68) (v := ?_) (a' := ?_) #[true, true, true, true, true, true, true, true, true, true, true, true, true, true, false, false, false, false, false, false, false, false, false, false, false, false, false, false, false, false, false, false] rfl rfl (by kernel_rfl) (fun _ _ _ h => h) ?_ ?_ ?_
                  rotate_left
                  · first
                    | (refine Or.inr ⟨by rfl, ?_⟩; with_reducible rfl)
                    | (refine Or.inl ⟨by rfl, ?_⟩
                       intro u
                       go_simp
                       with_reducible rfl)
                  rotate_left
                  · simp only [Act.put, List.setIfInBounds_toArray, List.set_cons_zero, List.set_cons_succ, i64_w, i32_w]
                    rfl
                  refine take_ (i := 14) (N := some 69) (v := ?_) (a' := ?_) #[true, true, true, true, true, true, true, true, true, true, true, true, true, true, true, false, false, false, false, false, false, false, false, false, false, false, false, false, false, false, false, false] rfl rfl (by kernel_rfl) (fun _ _ _ h => h) ?_ hHeld ?_ ?_
                  rotate_left
                  · first
                    | (refine Or.inr ⟨by rfl, ?_⟩; with_reducible rfl)
                    | (refine Or.inl ⟨by rfl, ?_⟩
                       rintro u ⟨g0, g1, g2, g3, g4, g5⟩
                       go_simp
                       with_reducible rfl)
                  rotate_left
                  · simp only [Act.put, List.setIfInBounds_toArray, List.set_cons_zero, List.set_cons_succ, i64_w, i32_w]
                    rfl
                  refine pure_ (i := 15) (N := some 70) (v := ?_) (a' := ?_) #[true, true, true, true, true, true, true, true, true, true, true, true, true, true, true, true, false, false, false, false, false, false, false, false, false, false, false, false, false, false, false, false] rfl rfl (by kernel_rfl) (fun _ _ _ h => h) ?_ ?_ ?_
                  rotate_left
                  · first
                    | (refine Or.inr ⟨by rfl, ?_⟩; with_reducible rfl)
                    | (refine Or.inl ⟨by rfl, ?_⟩
                       intro u
                       go_simp
                       with_reducible rfl)
                  rotate_left
                  · simp only [Act.put, List.setIfInBounds_toArray, List.set_cons_zero, List.set_cons_succ, i64_w, i32_w]
                    rfl
                  refine take_ (i := 16) (N := some 71) (v := ?_) (a' := ?_) #[true, true, true, true, true, true, true, true, true, true, true, true, true, true, true, true, true, false, false, false, false, false, false, false, false, false, false, false, false, false, false, false] rfl rfl (by kernel_rfl) (fun _ _ _ h => h) ?_ hHeld ?_ ?_
                  rotate_left
                  · first
                    | (refine Or.inr ⟨by rfl, ?_⟩; with_reducible rfl)
                    | (refine Or.inl ⟨by rfl, ?_⟩
                       rintro u ⟨g0, g1, g2, g3, g4, g5⟩
                       go_simp
                       with_reducible rfl)
                  rotate_left
                  · simp only [Act.put, List.setIfInBounds_toArray, List.set_cons_zero, List.set_cons_succ, i64_w, i32_w]
                    rfl
                  refine pure_ (i := 17) (N := some 72) (v := ?_) (a' := ?_) #[true, true, true, true, true, true, true, true, true, true, true, true, true, true, true, true, true, true, false, false, false, false, false, false, false, false, false, false, false, false, false, false] rfl rfl (by kernel_rfl) (fun _ _ _ h => h) ?_ ?_ ?_
                  rotate_left
                  · first
                    | (refine Or.inr ⟨by rfl, ?_⟩; with_reducible rfl)
                    | (refine Or.inl ⟨by rfl, ?_⟩
                       intro u
                       go_simp
                       with_reducible rfl)
                  rotate_left
                  · simp only [Act.put, List.setIfInBounds_toArray, List.set_cons_zero, List.set_cons_succ, i64_w, i32_w]
                    rfl
                  refine pure_ (i := 18) (N := some 73) (v := ?_) (a' := ?_) #[true, true, true, true, true, true, true, true, true, true, true, true, true, true, true, true, true, true, true, false, false, false, false, false, false, false, false, false, false, false, false, false] rfl rfl (by kernel_rfl) (fun _ _ _ h => h) ?_ ?_ ?_
                  rotate_left
                  · first
                    | (refine Or.inr ⟨by rfl, ?_⟩; with_reducible rfl)
                    | (refine Or.inl ⟨by rfl, ?_⟩
                       intro u
                       go_simp
                       with_reducible rfl)
                  rotate_left
                  · simp only [Act.put, List.setIfInBounds_toArray, List.set_cons_zero, List.set_cons_succ, i64_w, i32_w]
                    rfl
                  refine pure_ (i := 19) (N := some 74) (v := ?_) (a' := ?_) #[true, true, true, true, true, true, true, true, true, true, true, true, true, true, true, true, true, true, true, true, false, false, false, false, false, false, false, false, false, false, false, false] rfl rfl (by kernel_rfl) (fun _ _ _ h => h) ?_ ?_ ?_
                  rotate_left
                  · first
                    | (refine Or.inr ⟨by rfl, ?_⟩; with_reducible rfl)
                    | (refine Or.inl ⟨by rfl, ?_⟩
                       intro u
                       go_simp
                       with_reducible rfl)
                  rotate_left
                  · simp only [Act.put, List.setIfInBounds_toArray, List.set_cons_zero, List.set_cons_succ, i64_w, i32_w]
                    rfl
                  refine pure_ (i := 20) (N := some 75) (v := ?_) (a' := ?_) #[true, true, true, true, true, true, true, true, true, true, true, true, true, true, true, true, true, true, true, true, true, false, false, false, false, false, false, false, false, false, false, false] rfl rfl (by kernel_rfl) (fun _ _ _ h => h) ?_ ?_ ?_
                  rotate_left
                  · first
                    | (refine Or.inr ⟨by rfl, ?_⟩; with_reducible rfl)
                    | (refine Or.inl ⟨by rfl, ?_⟩
                       intro u
                       go_simp
                       with_reducible rfl)
                  rotate_left
                  · simp only [Act.put, List.setIfInBounds_toArray, List.set_cons_zero, List.set_cons_succ, i64_w, i32_w]
                    rfl
                  refine pure_ (i := 21) (N := some 76) (v := ?_) (a' := ?_) #[true, true, true, true, true, true, true, true, true, true, true, true, true, true, true, true, true, true, true, true, true, true, false, false, false, false, false, false, false, false, false, false] rfl rfl (by kernel_rfl) (fun _ _ _ h => h) ?_ ?_ ?_
                  rotate_left
                  · first
                    | (refine Or.inr ⟨by rfl, ?_⟩; with_reducible rfl)
                    | (refine Or.inl ⟨by rfl, ?_⟩
                       intro u
                       go_simp
                       with_reducible rfl)
                  rotate_left
                  · simp only [Act.put, List.setIfInBounds_toArray, List.set_cons_zero, List.set_cons_succ, i64_w, i32_w]
                    rfl
                  refine take_ (i := 22) (N := some 77) (v := ?_) (a' := ?_) #[true, true, true, true, true, true, true, true, true, true, true, true, true, true, true, true, true, true, true, true, true, true, true, false, false, false, false, false, false, false, false, false] rfl rfl (by kernel_rfl) (fun _ _ _ h => h) ?_ hHeld ?_ ?_
                  rotate_left
                  · first
                    | (refine Or.inr ⟨by rfl, ?_⟩; with_reducible rfl)
                    | (refine Or.inl ⟨by rfl, ?_⟩
                       rintro u ⟨g0, g1, g2, g3, g4, g5⟩
                       go_simp
                       with_reducible rfl)
                  rotate_left
                  · simp only [Act.put, List.setIfInBounds_toArray, List.set_cons_zero, List.set_cons_succ, i64_w, i32_w]
                    rfl
                  refine pure_ (i := 23) (N := some 78) (v := ?_) (a' := ?_) #[true, true, true, true, true, true, true, true, true, true, true, true, true, true, true, true, true, true, true, true, true, true, true, true, false, false, false, false, false, false, false, false] rfl rfl (by kernel_rfl) (fun _ _ _ h => h) ?_ ?_ ?_
                  rotate_left
                  · first
                    | (refine Or.inr ⟨by rfl, ?_⟩; with_reducible rfl)
                    | (refine Or.inl ⟨by rfl, ?_⟩
                       intro u
                       go_simp
                       with_reducible rfl)
                  rotate_left
                  · simp only [Act.put, List.setIfInBounds_toArray, List.set_cons_zero, List.set_cons_succ, i64_w, i32_w]
                    rfl
                  refine take_ (i := 24) (N := some 79) (v := ?_) (a' := ?_) #[true, true, true, true, true, true, true, true, true, true, true, true, true, true, true, true, true, true, true, true, true, true, true, true, true, false, false, false, false, false, false, false] rfl rfl (by kernel_rfl) (fun _ _ _ h => h) ?_ hHeld ?_ ?_
                  rotate_left
                  · first
                    | (refine Or.inr ⟨by rfl, ?_⟩; with_reducible rfl)
                    | (refine Or.inl ⟨by rfl, ?_⟩
                       rintro u ⟨g0, g1, g2, g3, g4, g5⟩
                       go_simp
                       with_reducible rfl)
                  rotate_left
                  · simp only [Act.put, List.setIfInBounds_toArray, List.set_cons_zero, List.set_cons_succ, i64_w, i32_w]
                    rfl
                  refine pure_ (i := 25) (N := some 80) (v := ?_) (a' := ?_) #[true, true, true, true, true, true, true, true, true, true, true, true, true, true, true, true, true, true, true, true, true, true, true, true, true, true, false, false, false, false, false, false] rfl rfl (by kernel_rfl) (fun _ _ _ h => h) ?_ ?_ ?_
                  rotate_left
                  · first
                    | (refine Or.inr ⟨by rfl, ?_⟩; with_reducible rfl)
                    | (refine Or.inl ⟨by rfl, ?_⟩
                       intro u
                       go_simp
                       with_reducible rfl)
                  rotate_left
                  · simp only [Act.put, List.setIfInBounds_toArray, List.set_cons_zero, List.set_cons_succ, i64_w, i32_w]
                    rfl
                  refine pure_ (i := 26) (N := some 81) (v := ?_) (a' := ?_) #[true, true, true, true, true, true, true, true, true, true, true, true, true, true, true, true, true, true, true, true, true, true, true, true, true, true, true, false, false, false, false, false] rfl rfl (by kernel_rfl) (fun _ _ _ h => h) ?_ ?_ ?_
                  rotate_left
                  · first
                    | (refine Or.inr ⟨by rfl, ?_⟩; with_reducible rfl)
                    | (refine Or.inl ⟨by rfl, ?_⟩
                       intro u
                       go_simp
                       with_reducible rfl)
                  rotate_left
                  · simp only [Act.put, List.setIfInBounds_toArray, List.set_cons_zero, List.set_cons_succ, i64_w, i32_w]
                    rfl
                  refine pure_ (i := 27) (N := some 82) (v := ?_) (a' := ?_) #[true, true, true, true, true, true, true, true, true, true, true, true, true, true, true, true, true, true, true, true, true, true, true, true, true, true, true, true, false, false, false, false] rfl rfl (by kernel_rfl) (fun _ _ _ h => h) ?_ ?_ ?_
                  rotate_left
                  · first
                    | (refine Or.inr ⟨by rfl, ?_⟩; with_reducible rfl)
                    | (refine Or.inl ⟨by rfl, ?_⟩
                       intro u
                       go_simp
                       with_reducible rfl)
                  rotate_left
                  · simp only [Act.put, List.setIfInBounds_toArray, List.set_cons_zero, List.set_cons_succ, i64_w, i32_w]
                    rfl
                  refine pure_ (i := 28) (N := some 83) (v := ?_) (a' := ?_) #[true, true, true, true, true, true, true, true, true, true, true, true, true, true, true, true, true, true, true, true, true, true, true, true, true, true, true, true, true, false, false, false] rfl rfl (by kernel_rfl) (fun _ _ _ h => h) (Or.inl ⟨by rfl, ?_⟩) ?_ ?_
                  rotate_left
                  · intro u
                    go_simp
                    with_reducible rfl
                  rotate_left
                  · simp only [Act.put, List.setIfInBounds_toArray, List.set_cons_zero, List.set_cons_succ, i64_w, i32_w]
                    rfl
                  refine pure_ (i := 29) (N := some 84) (v := ?_) (a' := ?_) #[true, true, true, true, true, true, true, true, true, true, true, true, true, true, true, true, true, true, true, true, true, true, true, true, true, true, true, true, true, true, false, false] rfl rfl (by kernel_rfl) (fun _ _ _ h => h) (Or.inl ⟨by rfl, ?_⟩) ?_ ?_
                  rotate_left
                  · intro u
                    go_simp
                    with_reducible rfl
                  rotate_left
                  · simp only [Act.put, List.setIfInBounds_toArray, List.set_cons_zero, List.set_cons_succ, i64_w, i32_w]
                    rfl
                  refine pure_ (i := 30) (N := some 85) (v := ?_) (a' := ?_) #[true, true, true, true, true, true, true, true, true, true, true, true, true, true, true, true, true, true, true, true, true, true, true, true, true, true, true, true, true, true, true, false] rfl rfl (by kernel_rfl) (fun _ _ _ h => h) (Or.inl ⟨by rfl, ?_⟩) ?_ ?_
                  rotate_left
                  · intro u
                    go_simp
                    with_reducible rfl
                  rotate_left
                  · simp only [Act.put, List.setIfInBounds_toArray, List.set_cons_zero, List.set_cons_succ, i64_w, i32_w]
                    rfl
                  refine last_ (i := 31) (N := none) #[true, true, true, true, true, true, true, true, true, true, true, true, true, true, true, true, true, true, true, true, true, true, true, true, true, true, true, true, true, true, true, true] rfl rfl (by kernel_rfl) (by decide) (fun K hK => ?_)
                  rw [if_pos (by rfl)]
                  go_simp
                  refine hK.out _ _ ?_
                  clear hK K
                  refine done_ (by kernel_rfl) ?_
                  go_wp2
                  have hb9 : (w3.setCell ⟨gt, i * 4 + 1, none⟩ (.bool true)).heap[gs]? = some (.cells #[.string s.f0, .int .i64 s.f1, .int .i64 s.f2, .int .i64 s.f3, .slice A4 s.f4.length c4, .int .i64 s.f5, .slice A6 s.f6.length c6] 72 (0, 0)) := blk_far hbs3 HGS.out _
                  refine start_ (n := 16) (S := fun u => u.heap[gs]? = some (.cells #[.string s.f0, .int .i64 s.f1, .int .i64 s.f2, .int .i64 s.f3, .slice A4 s.f4.length c4, .int .i64 s.f5, .slice A6 s.f6.length c6] 72 (0, 0))) (ds := [15]) #[false, false, false, false, false, false, false, false, false, false, false, false, false, false, false, false] (by kernel_rfl) rfl rfl ?_ (fun hHeld => ?_)
                  case refine_1 => exact hb9
                  refine pure_ (i := 0) (N := some 91) (v := ?_) (a' := ?_) #[true, false, false, false, false, false, false, false, false, false, false, false, false, false, false, false] rfl rfl (by kernel_rfl) (fun _ _ _ h => h) (Or.inl ⟨by rfl, ?_⟩) ?_ ?_
                  rotate_left
                  · intro u
                    go_simp
                    with_reducible rfl
                  rotate_left
                  · simp only [Act.put, List.setIfInBounds_toArray, List.set_cons_zero, List.set_cons_succ, i64_w, i32_w]
                    rfl
                  refine pure_ (i := 1) (N := some 92) (v := ?_) (a' := ?_) #[true, true, false, false, false, false, false, false, false, false, false, false, false, false, false, false] rfl rfl (by kernel_rfl) (fun _ _ _ h => h) (Or.inl ⟨by rfl, ?_⟩) ?_ ?_
                  rotate_left
                  · intro u
                    go_simp
                    with_reducible rfl
                  rotate_left
                  · simp only [Act.put, List.setIfInBounds_toArray, List.set_cons_zero, List.set_cons_succ, i64_w, i32_w]
                    rfl
                  refine pure_ (i := 2) (N := some 93) (v := ?_) (a' := ?_) #[true, true, true, false, false, false, false, false, false, false, false, false, false, false, false, false] rfl rfl (by kernel_rfl) (fun _ _ _ h => h) (Or.inl ⟨by rfl, ?_⟩) ?_ ?_
                  rotate_left
                  · intro u
                    go_simp
                    with_reducible rfl
                  rotate_left
                  · simp only [Act.put, List.setIfInBounds_toArray, List.set_cons_zero, List.set_cons_succ, i64_w, i32_w]
                    rfl
                  refine pure_ (i := 3) (N := some 94) (v := ?_) (a' := ?_) #[true, true, true, true, false, false, false, false, false, false, false, false, false, false, false, false] rfl rfl (by kernel_rfl) (fun _ _ _ h => h) (Or.inl ⟨by rfl, ?_⟩) ?_ ?_
                  rotate_left
                  · intro u
                    go_simp
                    with_reducible rfl
                  rotate_left
                  · simp only [Act.put, List.setIfInBounds_toArray, List.set_cons_zero, List.set_cons_succ, i64_w, i32_w]
                    rfl
                  refine take_ (i := 4) (N := some 95) (v := ?_) (a' := ?_) #[true, true, true, true, true, false, false, false, false, false, false, false, false, false, false, false] rfl rfl (by kernel_rfl) (fun _ _ _ h => h) (Or.inl ⟨by rfl, ?_⟩) hHeld ?_ ?_
                  rotate_left
                  · rintro u hs0
                    have q1 : u.cell? ⟨gs, 1, none⟩ = some (.int .i64 s.f1) := (blk_cell hs0 1).trans rfl
                    have q2 : u.cell? ⟨gs, 2, none⟩ = some (.int .i64 s.f2) := (blk_cell hs0 2).trans rfl
                    go_simp
                    with_reducible rfl
                  rotate_left
                  · simp only [Act.put, List.setIfInBounds_toArray, List.set_cons_zero, List.set_cons_succ, i64_w, i32_w]
                    rfl
                  refine pure_ (i := 5) (N := some 96) (v := ?_) (a' := ?_) #[true, true, true, true, true, true, false, false, false, false, false, false, false, false, false, false] rfl rfl (by kernel_rfl) (fun _ _ _ h => h) (Or.inl ⟨by rfl, ?_⟩) ?_ ?_
                  rotate_left
                  · intro u
                    go_simp
                    with_reducible rfl
                  rotate_left
                  · simp only [Act.put, List.setIfInBounds_toArray, List.set_cons_zero, List.set_cons_succ, i64_w, i32_w]
                    rfl
                  refine take_ (i := 6) (N := some 97) (v := ?_) (a' := ?_) #[true, true, true, true, true, true, true, false, false, false, false, false, false, false, false, false] rfl rfl (by kernel_rfl) (fun _ _ _ h => h) (Or.inl ⟨by rfl, ?_⟩) hHeld ?_ ?_
                  rotate_left
                  · rintro u hs0
                    have q1 : u.cell? ⟨gs, 1, none⟩ = some (.int .i64 s.f1) := (blk_cell hs0 1).trans rfl
                    have q2 : u.cell? ⟨gs, 2, none⟩ = some (.int .i64 s.f2) := (blk_cell hs0 2).trans rfl
                    go_simp
                    with_reducible rfl
                  rotate_left
                  · simp only [Act.put, List.setIfInBounds_toArray, List.set_cons_zero, List.set_cons_succ, i64_w, i32_w]
                    rfl
                  refine pure_ (i := 7) (N := some 98) (v := ?_) (a' := ?_) #[true, true, true, true, true, true, true, true, false, false, false, false, false, false, false, false] rfl rfl (by kernel_rfl) (fun _ _ _ h => h) (Or.inl ⟨by rfl, ?_⟩) ?_ ?_
                  rotate_left
                  · intro u
                    go_simp
                    with_reducible rfl
                  rotate_left
                  · simp only [Act.put, List.setIfInBounds_toArray, List.set_cons_zero, List.set_cons_succ, i64_w, i32_w]
                    rfl
                  refine pure_ (i := 8) (N := some 99) (v := ?_) (a' := ?_) #[true, true, true, true, true, true, true, true, true, false, false, false, false, false, false, false] rfl rfl (by kernel_rfl) (fun _ _ _ h => h) (Or.inl ⟨by rfl, ?_⟩) ?_ ?_
                  rotate_left
                  · intro u
                    go_simp
                    with_reducible rfl
                  rotate_left
                  · simp only [Act.put, List.setIfInBounds_toArray, List.set_cons_zero, List.set_cons_succ, i64_w, i32_w]
                    rfl
                  refine one_ (i := 9) (N := none) #[true, true, true, true, true, true, true, true, true, true, false, false, false, false, false, false] rfl rfl (by kernel_rfl) (by decide) (fun K hK => ?_)
                  rw [if_pos (by rfl)]
                  go_simp
                  refine hK.out _ _ (blk_far hHeld HGS.out _) (fun hHeld => ?_)
                  clear hK K
                  refine pure_ (i := 10) (N := some 100) (v := ?_) (a' := ?_) #[true, true, true, true, true, true, true, true, true, true, true, false, false, false, false, false] rfl rfl (by kernel_rfl) (fun _ _ _ h => h) (Or.inl ⟨by rfl, ?_⟩) ?_ ?_
                  rotate_left
                  · intro u
                    go_simp
                    with_reducible rfl
                  rotate_left
                  · simp only [Act.put, List.setIfInBounds_toArray, List.set_cons_zero, List.set_cons_succ, i64_w, i32_w]
                    rfl
                  refine pure_ (i := 11) (N := some 101) (v := ?_) (a' := ?_) #[true, true, true, true, true, true, true, true, true, true, true, true, false, false, false, false] rfl rfl (by kernel_rfl) (fun _ _ _ h => h) (Or.inl ⟨by rfl, ?_⟩) ?_ ?_
                  rotate_left
                  · intro u
                    go_simp
                    with_reducible rfl
                  rotate_left
                  · simp only [Act.put, List.setIfInBounds_toArray, List.set_cons_zero, List.set_cons_succ, i64_w, i32_w]
                    rfl
                  refine one_ (i := 12) (N := none) #[true, true, true, true, true, true, true, true, true, true, true, true, true, false, false, false] rfl rfl (by kernel_rfl) (by decide) (fun K hK => ?_)
                  rw [if_pos (by rfl)]
                  go_simp
                  refine hK.out _ _ (blk_far hHeld HGS.out _) (fun hHeld => ?_)
                  clear hK K
                  refine pure_ (i := 13) (N := some 102) (v := ?_) (a' := ?_) #[true, true, true, true, true, true, true, true, true, true, true, true, true, true, false, false] rfl rfl (by kernel_rfl) (fun _ _ _ h => h) (Or.inl ⟨by rfl, ?_⟩) ?_ ?_
                  rotate_left
                  · intro u
                    go_simp
                    with_reducible rfl
                  rotate_left
                  · simp only [Act.put, List.setIfInBounds_toArray, List.set_cons_zero, List.set_cons_succ, i64_w, i32_w]
                    rfl
                  refine pure_ (i := 14) (N := some 103) (v := ?_) (a' := ?_) #[true, true, true, true, true, true, true, true, true, true, true, true, true, true, true, false] rfl rfl (by kernel_rfl) (fun _ _ _ h => h) (Or.inl ⟨by rfl, ?_⟩) ?_ ?_
                  rotate_left
                  · intro u
                    go_simp
                    with_reducible rfl
                  rotate_left
                  · simp only [Act.put, List.setIfInBounds_toArray, List.set_cons_zero, List.set_cons_succ, i64_w, i32_w]
                    rfl
                  refine last_ (i := 15) (N := none) #[true, true, true, true, true, true, true, true, true, true, true, true, true, true, true, true] rfl rfl (by kernel_rfl) (by decide) (fun K hK => ?_)
                  rw [if_pos (by rfl)]
                  go_simp
                  refine hK.out _ _ ?_
                  clear hK K
                  refine done_ (by kernel_rfl) ?_
                  go_wp2
                  go_roundg gk
                  case measure => omega
                  case rel => exact ⟨k + 1, by omega, by go_num, ⟨(SEC.out [(1, .bool true), (0, .bool true), (2, .int .i64 s.f1), (3, .int .i64 s.f2)] (by rw [HV.out]; rfl) (by simp [Value.oneCell'])).below (pw_below_drewN (Below.refl _ _) 2)⟩⟩
                | false =>
                  have HV := Aside0.mk (show kndF s m = { some := true, clash := false, typ := s.f1, flags := s.f2 } from by unfold kndF; rw [← HV0.out.1, ← HV0.out.2]; rfl)
                  go_wp2
                  refine start_ (n := 32) (S := fun u => u.cell? ⟨gt, i * 4, none⟩ = some (.bool false) ∧ u.cell? ⟨gt, i * 4 + 1, none⟩ = some (.bool false) ∧ u.cell? ⟨gt, i * 4 + 2, none⟩ = some (.int .i64 m.typ) ∧ u.cell? ⟨gt, i * 4 + 3, none⟩ = some (.int .i64 m.flags) ∧ u.cell? ⟨gs, 1, none⟩ = some (.int .i64 s.f1) ∧ u.cell? ⟨gs, 2, none⟩ = some (.int .i64 s.f2)) (ds := [31]) #[false, false, false, false, false, false, false, false, false, false, false, false, false, false, false, false, false, false, false, false, false, false, false, false, false, false, false, false, false, false, false, false] (by kernel_rfl) rfl rfl ?_ (fun hHeld => ?_)
                  case refine_1 => exact ⟨d0, d1, d2, d3, z1, z2⟩
                  refine pure_ (i := 0) (N := some 55) (v := ?_) (a' := ?_) #[true, false, false, false, false, false, false, false, false, false, false, false, false, false, false, false, false, false, false, false, false, false, false, false, false, false, false, false, false, false, false, false] rfl rfl (by kernel_rfl) (fun _ _ _ h => h) (Or.inl ⟨by rfl, ?_⟩) ?_ ?_
                  rotate_left
                  · intro u
                    go_simp
                    with_reducible rfl
                  rotate_left
                  · simp only [Act.put, List.setIfInBounds_toArray, List.set_cons_zero, List.set_cons_succ, i64_w, i32_w]
                    rfl
                  refine pure_ (i := 1) (N := some 56) (v := ?_) (a' := ?_) #[true, true, false, false, false, false, false, false, false, false, false, false, false, false, false, false, false, false, false, false, false, false, false, false, false, false, false, false, false, false, false, false] rfl rfl (by kernel_rfl) (fun _ _ _ h => h) (Or.inl ⟨by rfl, ?_⟩) ?_ ?_
                  rotate_left
                  · intro u
                    go_simp
                    with_reducible rfl
                  rotate_left
                  · simp only [Act.put, List.setIfInBounds_toArray, List.set_cons_zero, List.set_cons_succ, i64_w, i32_w]
                    rfl
                  refine pure_ (i := 2) (N := some 57) (v := ?_) (a' := ?_) #[true, true, true, false, false, false, false, false, false, false, false, false, false, false, false, false, false, false, false, false, false, false, false, false, false, false, false, false, false, false, false, false] rfl rfl (by kernel_rfl) (fun _ _ _ h => h) (Or.inl ⟨by rfl, ?_⟩) ?_ ?_
                  rotate_left
                  · intro u
                    go_simp
                    with_reducible rfl
                  rotate_left
                  · simp only [Act.put, List.setIfInBounds_toArray, List.set_cons_zero, List.set_cons_succ, i64_w, i32_w]
                    rfl
                  refine pure_ (i := 3) (N := some 58) (v := ?_) (a' := ?_) #[true, true, true, true, false, false, false, false, false, false, false, false, false, false, false, false, false, false, false, false, false, false, false, false, false, false, false, false, false, false, false, false] rfl rfl (by kernel_rfl) (fun _ _ _ h => h) (Or.inl ⟨by rfl, ?_⟩) ?_ ?_
                  rotate_left
                  · intro u
                    go_simp
                    with_reducible rfl
                  rotate_left
                  · simp only [Act.put, List.setIfInBounds_toArray, List.set_cons_zero, List.set_cons_succ, i64_w, i32_w]
                    rfl
                  refine take_ (i := 4) (N := some 59) (v := ?_) (a' := ?_) #[true, true, true, true, true, false, false, false, false, false, false, false, false, false, false, false, false, false, false, false, false, false, false, false, false, false, false, false, false, false, false, false] rfl rfl (by kernel_rfl) (fun _ _ _ h => h) (Or.inl ⟨by rfl, ?_⟩) hHeld ?_ ?_
                  rotate_left
                  · rintro u ⟨g0, g1, g2, g3, g4, g5⟩
                    go_simp
                    with_reducible rfl
                  rotate_left
                  · simp only [Act.put, List.setIfInBounds_toArray, List.set_cons_zero, List.set_cons_succ, i64_w, i32_w]
                    rfl
                  refine pure_ (i := 5) (N := some 60) (v := ?_) (a' := ?_) #[true, true, true, true, true, true, false, false, false, false, false, false, false, false, false, false, false, false, false, false, false, false, false, false, false, false, false, false, false, false, false, false] rfl rfl (by kernel_rfl) (fun _ _ _ h => h) (Or.inl ⟨by rfl, ?_⟩) ?_ ?_
                  rotate_left
                  · intro u
                    go_simp
                    with_reducible rfl
                  rotate_left
                  · simp only [Act.put, List.setIfInBounds_toArray, List.set_cons_zero, List.set_cons_succ, i64_w, i32_w]
                    rfl
                  refine pure_ (i := 6) (N := some 61) (v := ?_) (a' := ?_) #[true, true, true, true, true, true, true, false, false, false, false, false, false, false, false, false, false, false, false, false, false, false, false, false, false, false, false, false, false, false, false, false] rfl rfl (by kernel_rfl) (fun _ _ _ h => h) ?_ ?_ ?_
                  rotate_left
                  · first
                    | (refine Or.inr ⟨by rfl, ?_⟩; with_reducible rfl)
                    | (refine Or.inl ⟨by rfl, ?_⟩
                       intro u
                       go_simp
                       with_reducible rfl)
                  rotate_left
                  · simp only [Act.put, List.setIfInBounds_toArray, List.set_cons_zero, List.set_cons_succ, i64_w, i32_w]
                    rfl
                  refine pure_ (i := 7) (N := some 62) (v := ?_) (a' := ?_) #[true, true, true, true, true, true, true, true, false, false, false, false, false, false, false, false, false, false, false, false, false, false, false, false, false, false, false, false, false, false, false, false] rfl rfl (by kernel_rfl) (fun _ _ _ h => h) ?_ ?_ ?_
                  rotate_left
                  · first
                    | (refine Or.inr ⟨by rfl, ?_⟩; with_reducible rfl)
                    | (refine Or.inl ⟨by rfl, ?_⟩
                       intro u
                       go_simp
                       with_reducible rfl)
                  rotate_left
                  · simp only [Act.put, List.setIfInBounds_toArray, List.set_cons_zero, List.set_cons_succ, i64_w, i32_w]
                    rfl
                  refine pure_ (i := 8) (N := some 63) (v := ?_) (a' := ?_) #[true, true, true, true, true, true, true, true, true, false, false, false, false, false, false, false, false, false, false, false, false, false, false, false, false, false, false, false, false, false, false, false] rfl rfl (by kernel_rfl) (fun _ _ _ h => h) ?_ ?_ ?_
                  rotate_left
                  · first
                    | (refine Or.inr ⟨by rfl, ?_⟩; with_reducible rfl)
                    | (refine Or.inl ⟨by rfl, ?_⟩
                       intro u
                       go_simp
                       with_reducible rfl)
                  rotate_left
                  · simp only [Act.put, List.setIfInBounds_toArray, List.set_cons_zero, List.set_cons_succ, i64_w, i32_w]
                    rfl
                  refine take_ (i := 9) (N := some 64) (v := ?_) (a' := ?_) #[true, true, true, true, true, true, true, true, true, true, false, false, false, false, false, false, false, false, false, false, false, false, false, false, false, false, false, false, false, false, false, false] rfl rfl (by kernel_rfl) (fun _ _ _ h => h) ?_ hHeld ?_ ?_
                  rotate_left
                  · first
                    | (refine Or.inr ⟨by rfl, ?_⟩; with_reducible rfl)
                    | (refine Or.inl ⟨by rfl, ?_⟩
                       rintro u ⟨g0, g1, g2, g3, g4, g5⟩
                       go_simp
                       with_reducible rfl)
                  rotate_left
                  · simp only [Act.put, List.setIfInBounds_toArray, List.set_cons_zero, List.set_cons_succ, i64_w, i32_w]
                    rfl
                  refine pure_ (i := 10) (N := some 65) (v := ?_) (a' := ?_) #[true, true, true, true, true, true, true, true, true, true, true, false, false, false, false, false, false, false, false, false, false, false, false, false, false, false, false, false, false, false, false, false] rfl rfl (by kernel_rfl) (fun _ _ _ h => h) ?_ ?_ ?_
                  rotate_left
                  · first
                    | (refine Or.inr ⟨by rfl, ?_⟩; with_reducible rfl)
                    | (refine Or.inl ⟨by rfl, ?_⟩
                       intro u
                       go_simp
                       with_reducible rfl)
                  rotate_left
                  · simp only [Act.put, List.setIfInBounds_toArray, List.set_cons_zero, List.set_cons_succ, i64_w, i32_w]
                    rfl
                  refine pure_ (i := 11) (N := some 66) (v := ?_) (a' := ?_) #[true, true, true, true, true, true, true, true, true, true, true, true, false, false, false, false, false, false, false, false, false, false, false, false, false, false, false, false, false, false, false, false] rfl rfl (by kernel_rfl) (fun _ _ _ h => h) ?_ ?_ ?_
                  rotate_left
                  · first
                    | (refine Or.inr ⟨by rfl, ?_⟩; with_reducible rfl)
                    | (refine Or.inl ⟨by rfl, ?_⟩
                       intro u
                       go_simp
                       with_reducible rfl)
                  rotate_left
                  · simp only [Act.put, List.setIfInBounds_toArray, List.set_cons_zero, List.set_cons_succ, i64_w, i32_w]
                    rfl
                  refine pure_ (i := 12) (N := some 67) (v := ?_) (a' := ?_) #[true, true, true, true, true, true, true, true, true, true, true, true, true, false, false, false, false, false, false, false, false, false, false, false, false, false, false, false, false, false, false, false] rfl rfl (by kernel_rfl) (fun _ _ _ h => h) ?_ ?_ ?_
                  rotate_left
                  · first
                    | (refine Or.inr ⟨by rfl, ?_⟩; with_reducible rfl)
                    | (refine Or.inl ⟨by rfl, ?_⟩
                       intro u
                       go_simp
                       with_reducible rfl)
                  rotate_left
                  · simp only [Act.put, List.setIfInBounds_toArray, List.set_cons_zero, List.set_cons_succ, i64_w, i32_w]
                    rfl
                  refine pure_ (i := 13) (N := some 68) (v := ?_) (a' := ?_) #[true, true, true, true, true, true, true, true, true, true, true, true, true, true, false, false, false, false, false, false, false, false, false, false, false, false, false, false, false, false, false, false] rfl rfl (by kernel_rfl) (fun _ _ _ h => h) ?_ ?_ ?_
                  rotate_left
                  · first
                    | (refine Or.inr ⟨by rfl, ?_⟩; with_reducible rfl)
                    | (refine Or.inl ⟨by rfl, ?_⟩
                       intro u
                       go_simp
                       with_reducible rfl)
                  rotate_left
                  · simp only [Act.put, List.setIfInBounds_toArray, List.set_cons_zero, List.set_cons_succ, i64_w, i32_w]
                    rfl
                  refine take_ (i := 14) (N := some 69) (v := ?_) (a' := ?_) #[true, true, true, true, true, true, true, true, true, true, true, true, true, true, true, false, false, false, false, false, false, false, false, false, false, false, false, false, false, false, false, false] rfl rfl (by kernel_rfl) (fun _ _ _ h => h) ?_ hHeld ?_ ?_
                  rotate_left
                  · first
                    | (refine Or.inr ⟨by rfl, ?_⟩; with_reducible rfl)
                    | (refine Or.inl ⟨by rfl, ?_⟩
                       rintro u ⟨g0, g1, g2, g3, g4, g5⟩
                       go_simp
                       with_reducible rfl)
                  rotate_left
                  · simp only [Act.put, List.setIfInBounds_toArray, List.set_cons_zero, List.set_cons_succ, i64_w, i32_w]
                    rfl
                  refine pure_ (i := 15) (N := some 70) (v := ?_) (a' := ?_) #[true, true, true, true, true, true, true, true, true, true, true, true, true, true, true, true, false, false, false, false, false, false, false, false, false, false, false, false, false, false, false, false] rfl rfl (by kernel_rfl) (fun _ _ _ h => h) ?_ ?_ ?_
                  rotate_left
                  · first
                    | (refine Or.inr ⟨by rfl, ?_⟩; with_reducible rfl)
                    | (refine Or.inl ⟨by rfl, ?_⟩
                       intro u
                       go_simp
                       with_reducible rfl)
                  rotate_left
                  · simp only [Act.put, List.setIfInBounds_toArray, List.set_cons_zero, List.set_cons_succ, i64_w, i32_w]
                    rfl
                  refine take_ (i := 16) (N := some 71) (v := ?_) (a' := ?_) #[true, true, true, true, true, true, true, true, true, true, true, true, true, true, true, true, true, false, false, false, false, false, false, false, false, false, false, false, false, false, false, false] rfl rfl (by kernel_rfl) (fun _ _ _ h => h) ?_ hHeld ?_ ?_
                  rotate_left
                  · first
                    | (refine Or.inr ⟨by rfl, ?_⟩; with_reducible rfl)
                    | (refine Or.inl ⟨by rfl, ?_⟩
                       rintro u ⟨g0, g1, g2, g3, g4, g5⟩
                       go_simp
                       with_reducible rfl)
                  rotate_left
                  · simp only [Act.put, List.setIfInBounds_toArray, List.set_cons_zero, List.set_cons_succ, i64_w, i32_w]
                    rfl
                  refine pure_ (i := 17) (N := some 72) (v := ?_) (a' := ?_) #[true, true, true, true, true, true, true, true, true, true, true, true, true, true, true, true, true, true, false, false, false, false, false, false, false, false, false, false, false, false, false, false] rfl rfl (by kernel_rfl) (fun _ _ _ h => h) ?_ ?_ ?_
                  rotate_left
                  · first
                    | (refine Or.inr ⟨by rfl, ?_⟩; with_reducible rfl)
                    | (refine Or.inl ⟨by rfl, ?_⟩
                       intro u
                       go_simp
                       with_reducible rfl)
                  rotate_left
                  · simp only [Act.put, List.setIfInBounds_toArray, List.set_cons_zero, List.set_cons_succ, i64_w, i32_w]
                    rfl
                  refine pure_ (i := 18) (N := some 73) (v := ?_) (a' := ?_) #[true, true, true, true, true, true, true, true, true, true, true, true, true, true, true, true, true, true, true, false, false, false, false, false, false, false, false, false, false, false, false, false] rfl rfl (by kernel_rfl) (fun _ _ _ h => h) ?_ ?_ ?_
                  rotate_left
                  · first
                    | (refine Or.inr ⟨by rfl, ?_⟩; with_reducible rfl)
                    | (refine Or.inl ⟨by rfl, ?_⟩
                       intro u
                       go_simp
                       with_reducible rfl)
                  rotate_left
                  · simp only [Act.put, List.setIfInBounds_toArray, List.set_cons_zero, List.set_cons_succ, i64_w, i32_w]
                    rfl
                  refine pure_ (i := 19) (N := some 74) (v := ?_) (a' := ?_) #[true, true, true, true, true, true, true, true, true, true, true, true, true, true, true, true, true, true, true, true, false, false, false, false, false, false, false, false, false, false, false, false] rfl rfl (by kernel_rfl) (fun _ _ _ h => h) ?_ ?_ ?_
                  rotate_left
                  · first
                    | (refine Or.inr ⟨by rfl, ?_⟩; with_reducible rfl)
                    | (refine Or.inl ⟨by rfl, ?_⟩
                       intro u
                       go_simp
                       with_reducible rfl)
                  rotate_left
                  · simp only [Act.put, List.setIfInBounds_toArray, List.set_cons_zero, List.set_cons_succ, i64_w, i32_w]
                    rfl
                  refine pure_ (i := 20) (N := some 75) (v := ?_) (a' := ?_) #[true, true, true, true, true, true, true, true, true, true, true, true, true, true, true, true, true, true, true, true, true, false, false, false, false, false, false, false, false, false, false, false] rfl rfl (by kernel_rfl) (fun _ _ _ h => h) ?_ ?_ ?_
                  rotate_left
                  · first
                    | (refine Or.inr ⟨by rfl, ?_⟩; with_reducible rfl)
                    | (refine Or.inl ⟨by rfl, ?_⟩
                       intro u
                       go_simp
                       with_reducible rfl)
                  rotate_left
                  · simp only [Act.put, List.setIfInBounds_toArray, List.set_cons_zero, List.set_cons_succ, i64_w, i32_w]
                    rfl
                  refine pure_ (i := 21) (N := some 76) (v := ?_) (a' := ?_) #[true, true, true, true, true, true, true, true, true, true, true, true, true, true, true, true, true, true, true, true, true, true, false, false, false, false, false, false, false, false, false, false] rfl rfl (by kernel_rfl) (fun _ _ _ h => h) ?_ ?_ ?_
                  rotate_left
                  · first
                    | (refine Or.inr ⟨by rfl, ?_⟩; with_reducible rfl)
                    | (refine Or.inl ⟨by rfl, ?_⟩
                       intro u
                       go_simp
                       with_reducible rfl)
                  rotate_left
                  · simp only [Act.put, List.setIfInBounds_toArray, List.set_cons_zero, List.set_cons_succ, i64_w, i32_w]
                    rfl
                  refine take_ (i := 22) (N := some 77) (v := ?_) (a' := ?_) #[true, true, true, true, true, true, true, true, true, true, true, true, true, true, true, true, true, true, true, true, true, true, true, false, false, false, false, false, false, false, false, false] rfl rfl (by kernel_rfl) (fun _ _ _ h => h) ?_ hHeld ?_ ?_
                  rotate_left
                  · first
                    | (refine Or.inr ⟨by rfl, ?_⟩; with_reducible rfl)
                    | (refine Or.inl ⟨by rfl, ?_⟩
                       rintro u ⟨g0, g1, g2, g3, g4, g5⟩
                       go_simp
                       with_reducible rfl)
                  rotate_left
                  · simp only [Act.put, List.setIfInBounds_toArray, List.set_cons_zero, List.set_cons_succ, i64_w, i32_w]
                    rfl
                  refine pure_ (i := 23) (N := some 78) (v := ?_) (a' := ?_) #[true, true, true, true, true, true, true, true, true, true, true, true, true, true, true, true, true, true, true, true, true, true, true, true, false, false, false, false, false, false, false, false] rfl rfl (by kernel_rfl) (fun _ _ _ h => h) ?_ ?_ ?_
                  rotate_left
                  · first
                    | (refine Or.inr ⟨by rfl, ?_⟩; with_reducible rfl)
                    | (refine Or.inl ⟨by rfl, ?_⟩
                       intro u
                       go_simp
                       with_reducible rfl)
                  rotate_left
                  · simp only [Act.put, List.setIfInBounds_toArray, List.set_cons_zero, List.set_cons_succ, i64_w, i32_w]
                    rfl
                  refine take_ (i := 24) (N := some 79) (v := ?_) (a' := ?_) #[true, true, true, true, true, true, true, true, true, true, true, true, true, true, true, true, true, true, true, true, true, true, true, true, true, false, false, false, false, false, false, false] rfl rfl (by kernel_rfl) (fun _ _ _ h => h) ?_ hHeld ?_ ?_
                  rotate_left
                  · first
                    | (refine Or.inr ⟨by rfl, ?_⟩; with_reducible rfl)
                    | (refine Or.inl ⟨by rfl, ?_⟩
                       rintro u ⟨g0, g1, g2, g3, g4, g5⟩
                       go_simp
                       with_reducible rfl)
                  rotate_left
                  · simp only [Act.put, List.setIfInBounds_toArray, List.set_cons_zero, List.set_cons_succ, i64_w, i32_w]
                    rfl
                  refine pure_ (i := 25) (N := some 80) (v := ?_) (a' := ?_) #[true, true, true, true, true, true, true, true, true, true, true, true, true, true, true, true, true, true, true, true, true, true, true, true, true, true, false, false, false, false, false, false] rfl rfl (by kernel_rfl) (fun _ _ _ h => h) ?_ ?_ ?_
                  rotate_left
                  · first
                    | (refine Or.inr ⟨by rfl, ?_⟩; with_reducible rfl)
                    | (refine Or.inl ⟨by rfl, ?_⟩
                       intro u
                       go_simp
                       with_reducible rfl)
                  rotate_left
                  · simp only [Act.put, List.setIfInBounds_toArray, List.set_cons_zero, List.set_cons_succ, i64_w, i32_w]
                    rfl
                  refine pure_ (i := 26) (N := some 81) (v := ?_) (a' := ?_) #[true, true, true, true, true, true, true, true, true, true, true, true, true, true, true, true, true, true, true, true, true, true, true, true, true, true, true, false, false, false, false, false] rfl rfl (by kernel_rfl) (fun _ _ _ h => h) ?_ ?_ ?_
                  rotate_left
                  · first
                    | (refine Or.inr ⟨by rfl, ?_⟩; with_reducible rfl)
                    | (refine Or.inl ⟨by rfl, ?_⟩
                       intro u
                       go_simp
                       with_reducible rfl)
                  rotate_left
                  · simp only [Act.put, List.setIfInBounds_toArray, List.set_cons_zero, List.set_cons_succ, i64_w, i32_w]
                    rfl
                  refine pure_ (i := 27) (N := some 82) (v := ?_) (a' := ?_) #[true, true, true, true, true, true, true, true, true, true, true, true, true, true, true, true, true, true, true, true, true, true, true, true, true, true, true, true, false, false, false, false] rfl rfl (by kernel_rfl) (fun _ _ _ h => h) ?_ ?_ ?_
                  rotate_left
                  · first
                    | (refine Or.inr ⟨by rfl, ?_⟩; with_reducible rfl)
                    | (refine Or.inl ⟨by rfl, ?_⟩
                       intro u
                       go_simp
                       with_reducible rfl)
                  rotate_left
                  · simp only [Act.put, List.setIfInBounds_toArray, List.set_cons_zero, List.set_cons_succ, i64_w, i32_w]
                    rfl
                  refine pure_ (i := 28) (N := some 83) (v := ?_) (a' := ?_) #[true, true, true, true, true, true, true, true, true, true, true, true, true, true, true, true, true, true, true, true, true, true, true, true, true, true, true, true, true, false, false, false] rfl rfl (by kernel_rfl) (fun _ _ _ h => h) (Or.inl ⟨by rfl, ?_⟩) ?_ ?_
                  rotate_left
                  · intro u
                    go_simp
                    with_reducible rfl
                  rotate_left
                  · simp only [Act.put, List.setIfInBounds_toArray, List.set_cons_zero, List.set_cons_succ, i64_w, i32_w]
                    rfl
                  refine pure_ (i := 29) (N := some 84) (v := ?_) (a' := ?_) #[true, true, true, true, true, true, true, true, true, true, true, true, true, true, true, true, true, true, true, true, true, true, true, true, true, true, true, true, true, true, false, false] rfl rfl (by kernel_rfl) (fun _ _ _ h => h) (Or.inl ⟨by rfl, ?_⟩) ?_ ?_
                  rotate_left
                  · intro u
                    go_simp
                    with_reducible rfl
                  rotate_left
                  · simp only [Act.put, List.setIfInBounds_toArray, List.set_cons_zero, List.set_cons_succ, i64_w, i32_w]
                    rfl
                  refine pure_ (i := 30) (N := some 85) (v := ?_) (a' := ?_) #[true, true, true, true, true, true, true, true, true, true, true, true, true, true, true, true, true, true, true, true, true, true, true, true, true, true, true, true, true, true, true, false] rfl rfl (by kernel_rfl) (fun _ _ _ h => h) (Or.inl ⟨by rfl, ?_⟩) ?_ ?_
                  rotate_left
                  · intro u
                    go_simp
                    with_reducible rfl
                  rotate_left
                  · simp only [Act.put, List.setIfInBounds_toArray, List.set_cons_zero, List.set_cons_succ, i64_w, i32_w]
                    rfl
                  refine last_ (i := 31) (N := none) #[true, true, true, true, true, true, true, true, true, true, true, true, true, true, true, true, true, true, true, true, true, true, true, true, true, true, true, true, true, true, true, true] rfl rfl (by kernel_rfl) (by decide) (fun K hK => ?_)
                  rw [if_pos (by rfl)]
                  go_simp
                  refine hK.out _ _ ?_
                  clear hK K
                  refine done_ (by kernel_rfl) ?_
                  go_wp2
                  have hb9 : (w3.setCell ⟨gt, i * 4 + 1, none⟩ (.bool false)).heap[gs]? = some (.cells #[.string s.f0, .int .i64 s.f1, .int .i64 s.f2, .int .i64 s.f3, .slice A4 s.f4.length c4, .int .i64 s.f5, .slice A6 s.f6.length c6] 72 (0, 0)) := blk_far hbs3 HGS.out _
                  refine start_ (n := 16) (S := fun u => u.heap[gs]? = some (.cells #[.string s.f0, .int .i64 s.f1, .int .i64 s.f2, .int .i64 s.f3, .slice A4 s.f4.length c4, .int .i64 s.f5, .slice A6 s.f6.length c6] 72 (0, 0))) (ds := [15]) #[false, false, false, false, false, false, false, false, false, false, false, false, false, false, false, false] (by kernel_rfl) rfl rfl ?_ (fun hHeld => ?_)
                  case refine_1 => exact hb9
                  refine pure_ (i := 0) (N := some 91) (v := ?_) (a' := ?_) #[true, false, false, false, false, false, false, false, false, false, false, false, false, false, false, false] rfl rfl (by kernel_rfl) (fun _ _ _ h => h) (Or.inl ⟨by rfl, ?_⟩) ?_ ?_
                  rotate_left
                  · intro u
                    go_simp
                    with_reducible rfl
                  rotate_left
                  · simp only [Act.put, List.setIfInBounds_toArray, List.set_cons_zero, List.set_cons_succ, i64_w, i32_w]
                    rfl
                  refine pure_ (i := 1) (N := some 92) (v := ?_) (a' := ?_) #[true, true, false, false, false, false, false, false, false, false, false, false, false, false, false, false] rfl rfl (by kernel_rfl) (fun _ _ _ h => h) (Or.inl ⟨by rfl, ?_⟩) ?_ ?_
                  rotate_left
                  · intro u
                    go_simp
                    with_reducible rfl
                  rotate_left
                  · simp only [Act.put, List.setIfInBounds_toArray, List.set_cons_zero, List.set_cons_succ, i64_w, i32_w]
                    rfl
                  refine pure_ (i := 2) (N := some 93) (v := ?_) (a' := ?_) #[true, true, true, false, false, false, false, false, false, false, false, false, false, false, false, false] rfl rfl (by kernel_rfl) (fun _ _ _ h => h) (Or.inl ⟨by rfl, ?_⟩) ?_ ?_
                  rotate_left
                  · intro u
                    go_simp
                    with_reducible rfl
                  rotate_left
                  · simp only [Act.put, List.setIfInBounds_toArray, List.set_cons_zero, List.set_cons_succ, i64_w, i32_w]
                    rfl
                  refine pure_ (i := 3) (N := some 94) (v := ?_) (a' := ?_) #[true, true, true, true, false, false, false, false, false, false, false, false, false, false, false, false] rfl rfl (by kernel_rfl) (fun _ _ _ h => h) (Or.inl ⟨by rfl, ?_⟩) ?_ ?_
                  rotate_left
                  · intro u
                    go_simp
                    with_reducible rfl
                  rotate_left
                  · simp only [Act.put, List.setIfInBounds_toArray, List.set_cons_zero, List.set_cons_succ, i64_w, i32_w]
                    rfl
                  refine take_ (i := 4) (N := some 95) (v := ?_) (a' := ?_) #[true, true, true, true, true, false, false, false, false, false, false, false, false, false, false, false] rfl rfl (by kernel_rfl) (fun _ _ _ h => h) (Or.inl ⟨by rfl, ?_⟩) hHeld ?_ ?_
                  rotate_left
                  · rintro u hs0
                    have q1 : u.cell? ⟨gs, 1, none⟩ = some (.int .i64 s.f1) := (blk_cell hs0 1).trans rfl
                    have q2 : u.cell? ⟨gs, 2, none⟩ = some (.int .i64 s.f2) := (blk_cell hs0 2).trans rfl
                    go_simp
                    with_reducible rfl
                  rotate_left
                  · simp only [Act.put, List.setIfInBounds_toArray, List.set_cons_zero, List.set_cons_succ, i64_w, i32_w]
                    rfl
                  refine pure_ (i := 5) (N := some 96) (v := ?_) (a' := ?_) #[true, true, true, true, true, true, false, false, false, false, false, false, false, false, false, false] rfl rfl (by kernel_rfl) (fun _ _ _ h => h) (Or.inl ⟨by rfl, ?_⟩) ?_ ?_
                  rotate_left
                  · intro u
                    go_simp
                    with_reducible rfl
                  rotate_left
                  · simp only [Act.put, List.setIfInBounds_toArray, List.set_cons_zero, List.set_cons_succ, i64_w, i32_w]
                    rfl
                  refine take_ (i := 6) (N := some 97) (v := ?_) (a' := ?_) #[true, true, true, true, true, true, true, false, false, false, false, false, false, false, false, false] rfl rfl (by kernel_rfl) (fun _ _ _ h => h) (Or.inl ⟨by rfl, ?_⟩) hHeld ?_ ?_
                  rotate_left
                  · rintro u hs0
                    have q1 : u.cell? ⟨gs, 1, none⟩ = some (.int .i64 s.f1) := (blk_cell hs0 1).trans rfl
                    have q2 : u.cell? ⟨gs, 2, none⟩ = some (.int .i64 s.f2) := (blk_cell hs0 2).trans rfl
                    go_simp
                    with_reducible rfl
                  rotate_left
                  · simp only [Act.put, List.setIfInBounds_toArray, List.set_cons_zero, List.set_cons_succ, i64_w, i32_w]
                    rfl
                  refine pure_ (i := 7) (N := some 98) (v := ?_) (a' := ?_) #[true, true, true, true, true, true, true, true, false, false, false, false, false, false, false, false] rfl rfl (by kernel_rfl) (fun _ _ _ h => h) (Or.inl ⟨by rfl, ?_⟩) ?_ ?_
                  rotate_left
                  · intro u
                    go_simp
                    with_reducible rfl
                  rotate_left
                  · simp only [Act.put, List.setIfInBounds_toArray, List.set_cons_zero, List.set_cons_succ, i64_w, i32_w]
                    rfl
                  refine pure_ (i := 8) (N := some 99) (v := ?_) (a' := ?_) #[true, true, true, true, true, true, true, true, true, false, false, false, false, false, false, false] rfl rfl (by kernel_rfl) (fun _ _ _ h => h) (Or.inl ⟨by rfl, ?_⟩) ?_ ?_
                  rotate_left
                  · intro u
                    go_simp
                    with_reducible rfl
                  rotate_left
                  · simp only [Act.put, List.setIfInBounds_toArray, List.set_cons_zero, List.set_cons_succ, i64_w, i32_w]
                    rfl
                  refine one_ (i := 9) (N := none) #[true, true, true, true, true, true, true, true, true, true, false, false, false, false, false, false] rfl rfl (by kernel_rfl) (by decide) (fun K hK => ?_)
                  rw [if_pos (by rfl)]
                  go_simp
                  refine hK.out _ _ (blk_far hHeld HGS.out _) (fun hHeld => ?_)
                  clear hK K
                  refine pure_ (i := 10) (N := some 100) (v := ?_) (a' := ?_) #[true, true, true, true, true, true, true, true, true, true, true, false, false, false, false, false] rfl rfl (by kernel_rfl) (fun _ _ _ h => h) (Or.inl ⟨by rfl, ?_⟩) ?_ ?_
                  rotate_left
                  · intro u
                    go_simp
                    with_reducible rfl
                  rotate_left
                  · simp only [Act.put, List.setIfInBounds_toArray, List.set_cons_zero, List.set_cons_succ, i64_w, i32_w]
                    rfl
                  refine pure_ (i := 11) (N := some 101) (v := ?_) (a' := ?_) #[true, true, true, true, true, true, true, true, true, true, true, true, false, false, false, false] rfl rfl (by kernel_rfl) (fun _ _ _ h => h) (Or.inl ⟨by rfl, ?_⟩) ?_ ?_
                  rotate_left
                  · intro u
                    go_simp
                    with_reducible rfl
                  rotate_left
                  · simp only [Act.put, List.setIfInBounds_toArray, List.set_cons_zero, List.set_cons_succ, i64_w, i32_w]
                    rfl
                  refine one_ (i := 12) (N := none) #[true, true, true, true, true, true, true, true, true, true, true, true, true, false, false, false] rfl rfl (by kernel_rfl) (by decide) (fun K hK => ?_)
                  rw [if_pos (by rfl)]
                  go_simp
                  refine hK.out _ _ (blk_far hHeld HGS.out _) (fun hHeld => ?_)
                  clear hK K
                  refine pure_ (i := 13) (N := some 102) (v := ?_) (a' := ?_) #[true, true, true, true, true, true, true, true, true, true, true, true, true, true, false, false] rfl rfl (by kernel_rfl) (fun _ _ _ h => h) (Or.inl ⟨by rfl, ?_⟩) ?_ ?_
                  rotate_left
                  · intro u
                    go_simp
                    with_reducible rfl
                  rotate_left
                  · simp only [Act.put, List.setIfInBounds_toArray, List.set_cons_zero, List.set_cons_succ, i64_w, i32_w]
                    rfl
                  refine pure_ (i := 14) (N := some 103) (v := ?_) (a' := ?_) #[true, true, true, true, true, true, true, true, true, true, true, true, true, true, true, false] rfl rfl (by kernel_rfl) (fun _ _ _ h => h) (Or.inl ⟨by rfl, ?_⟩) ?_ ?_
                  rotate_left
                  · intro u
                    go_simp
                    with_reducible rfl
                  rotate_left
                  · simp only [Act.put, List.setIfInBounds_toArray, List.set_cons_zero, List.set_cons_succ, i64_w, i32_w]
                    rfl
                  refine last_ (i := 15) (N := none) #[true, true, true, true, true, true, true, true, true, true, true, true, true, true, true, true] rfl rfl (by kernel_rfl) (by decide) (fun K hK => ?_)
                  rw [if_pos (by rfl)]
                  go_simp
                  refine hK.out _ _ ?_
                  clear hK K
                  refine done_ (by kernel_rfl) ?_
                  go_wp2
                  go_roundg gk
                  case measure => omega
                  case rel => exact ⟨k + 1, by omega, by go_num, ⟨(SEC.out [(1, .bool false), (0, .bool true), (2, .int .i64 s.f1), (3, .int .i64 s.f2)] (by rw [HV.out]; rfl) (by simp [Value.oneCell'])).below (pw_below_drewN (Below.refl _ _) 2)⟩⟩
end Go.Proofs.Ytibkcnlcmempgaa.Res
end
section
namespace Go.Proofs.Ytibkcnlcmempgaa.Res
set_option linter.unusedVariables false
set_option linter.unusedSimpArgs false
open Go.RowKit Go.Proofs.Ytibkcnlcmempgaa.G Go.Proofs.YtibkcnlcmempgaaW.PrintWords Go.Proofs.YtibkcnlcmempgaaW.PrintLast Go.Proofs.YtibkcnlcmempgaaW.PrintMore Go.Proofs.Ytibkcnlcmempgaa.Raw
/-- the first that is so; -1: none is -/
def idxOf {α : Type} (p : α → Bool) (l : List α) : Int := if l.any p then (l.findIdx p : Nat) else -1
theorem idxOf_hit {α : Type} (p : α → Bool) (l : List α) (k : Nat) (x : α) (hx : l[k]? = some x) (h : p x = true) (hb : ∀ (j : Nat), j < k → ∀ (y : α), l[j]? = some y → p y = false) : idxOf p l = k := by
  unfold idxOf
  rw [if_pos (List.any_eq_true.2 ⟨x, List.mem_of_getElem? hx, h⟩)]
  have hk := (List.getElem?_eq_some_iff.1 hx)
  have : l.findIdx p = k := by
    rw [List.findIdx_eq hk.1]
    refine ⟨by rw [hk.2]; exact h, fun j hj => ?_⟩
    have := hb j hj _ (List.getElem?_eq_getElem (by have := hk.1; omega))
    rw [this]
  rw [this]
theorem idxOf_miss {α : Type} (p : α → Bool) (l : List α) (hb : ∀ (j : Nat) (y : α), l[j]? = some y → p y = false) : idxOf p l = -1 := by
  unfold idxOf
  rw [if_neg]
  intro h
  obtain ⟨x, hx, hp⟩ := List.any_eq_true.1 h
  obtain ⟨j, hj, e⟩ := List.getElem_of_mem hx
  have := hb j x (by rw [List.getElem?_eq_getElem hj, e])
  rw [this] at hp
  cases hp
/-- what is asked of a predicate: at each element, in each later world -/
def PredSec (g : Nat) (lb : Array Value) (p : S72 → Bool) (l : List S72) (w : World) : Prop :=
  ∀ (W : World) (x : S72) (cs : List Value), x ∈ l → Below w.heap.size w W → k72.K W x cs → Calls Try.prog g (#[.agg cs.toArray] ++ lb) W fun e w' => e = .returned (.bool (p x)) ∧ Below W.heap.size W w'
set_option maxHeartbeats 2000000 in
set_option maxRecDepth 100000 in
theorem indexSec_calls (A : Option Addr) (c : Nat) (l : List S72) (w : World) (hr : Kd.C k72 w A l.length l) (g : Nat) (lb : Array Value) (p : S72 → Bool) (hp : PredSec g lb p l w) (eg : ∀ args w, (callFunc g args).run Try.prog w = .ok (.enter g args) w) :
    Calls Try.prog 46 #[.slice A l.length c, .func (.func g) #[] lb] w fun e w' => e = .returned (.int .i64 (idxOf p l)) ∧ Below w.heap.size w w' := by
  have HR := Aside0.mk hr
  have HP := Aside0.mk hp
  have hmax := Kd.C_max hr
  clear hr hp
  go_enter Try.func46, Try.ntmps46
  go_wp2
  go_loopg [5, 8] l.length (fun kq _ v8 wr => ∃ k : Nat, k + kq = l.length ∧ v8 = .int .i64 (k : Int) ∧ Aside0 (Below w.heap.size w wr) ∧ Aside0 (∀ j, j < k → ∀ y, l[j]? = some y → p y = false))
  case atStart => exact ⟨0, by omega, rfl, ⟨Below.refl _ _⟩, ⟨fun j hj => absurd hj (Nat.not_lt_zero _)⟩⟩
  case round =>
    obtain ⟨k, hk, rfl, HB, HN⟩ := hrel
    cases gk with
    | succ gk =>
      have hltb : decide ((k : Int) < (l.length : Int)) = true := by simp; omega
      obtain ⟨ad, cs, e, _, hK, hcell⟩ := Kd.C_get (Kd.C_below HR.out HB.out) z72 (k : Int) (by omega) (by omega)
      rw [Int.toNat_natCast] at hK hcell
      have hx : l[k]? = some (l.getD k z72) := by
        rw [List.getD_eq_getElem?_getD, List.getElem?_eq_getElem (by omega)]
        rfl
      generalize l.getD k z72 = x at hK hx
      have hcall := HP.out wr x cs (List.mem_of_getElem? hx) HB.out hK
      subst e
      have hc : ∀ j u, cs[j]? = some u → wr.cell? (ad.add (k * 7 + j)) = some u := hcell
      obtain ⟨A4, c4, A6, c6, rfl, _, _, _, _⟩ := k72_open hK
      have y0 : wr.cell? (ad.add (k * 7)) = some (.string x.f0) := hc 0 _ rfl
      have y1 : wr.cell? ⟨(ad.add (k * 7)).block, (ad.add (k * 7)).off + 1, none⟩ = some (.int .i64 x.f1) := by rw [← add_field _ _ 1 (by omega)]; exact hc 1 _ rfl
      have y2 : wr.cell? ⟨(ad.add (k * 7)).block, (ad.add (k * 7)).off + 2, none⟩ = some (.int .i64 x.f2) := by rw [← add_field _ _ 2 (by omega)]; exact hc 2 _ rfl
      have y3 : wr.cell? ⟨(ad.add (k * 7)).block, (ad.add (k * 7)).off + 3, none⟩ = some (.int .i64 x.f3) := by rw [← add_field _ _ 3 (by omega)]; exact hc 3 _ rfl
      have y4 : wr.cell? ⟨(ad.add (k * 7)).block, (ad.add (k * 7)).off + 4, none⟩ = some (.slice A4 x.f4.length c4) := by rw [← add_field _ _ 4 (by omega)]; exact hc 4 _ rfl
      have y5 : wr.cell? ⟨(ad.add (k * 7)).block, (ad.add (k * 7)).off + 5, none⟩ = some (.int .i64 x.f5) := by rw [← add_field _ _ 5 (by omega)]; exact hc 5 _ rfl
      have y6 : wr.cell? ⟨(ad.add (k * 7)).block, (ad.add (k * 7)).off + 6, none⟩ = some (.slice A6 x.f6.length c6) := by rw [← add_field _ _ 6 (by omega)]; exact hc 6 _ rfl
      have HX := Aside0.mk hx
      clear hK hcell hx HP HR
      cases hq : p x with
      | true =>
        rw [hq] at hcall
        have HC := Aside0.mk hcall
        have HQ := Aside0.mk hq
        clear hcall hq
        go_wp2_with (go_at_fn g; refine HC.out.mono ?_; rintro e w' ⟨rfl, hb'⟩)
        go_ret
        exact ⟨by rw [idxOf_hit p l k x HX.out HQ.out HN.out]; rfl, below_step HB.out hb'⟩
      | false =>
        rw [hq] at hcall
        have HC := Aside0.mk hcall
        have HQ := Aside0.mk hq
        clear hcall hq
        go_wp2_with (go_at_fn g; refine HC.out.mono ?_; rintro e w' ⟨rfl, hb'⟩)
        go_roundg gk
        case measure => omega
        case rel =>
          refine ⟨k + 1, by omega, by go_num, ⟨below_step HB.out hb'⟩, ⟨fun j hj y hy => ?_⟩⟩
          by_cases e : j = k
          · subst e
            rw [HX.out] at hy
            cases hy
            exact HQ.out
          · exact HN.out j (by omega) y hy
    | zero =>
      have hltb : decide ((k : Int) < (l.length : Int)) = false := by simp; omega
      go_wp2
      go_ret
      exact ⟨by rw [idxOf_miss p l (fun j y hy => HN.out j (by have := (List.getElem?_eq_some_iff.1 hy).1; omega) y hy)]; rfl, HB.out⟩
set_option maxRecDepth 100000 in
theorem containsSec_calls (A : Option Addr) (c : Nat) (l : List S72) (w : World) (hr : Kd.C k72 w A l.length l) (g : Nat) (lb : Array Value) (p : S72 → Bool) (hp : PredSec g lb p l w) (eg : ∀ args w, (callFunc g args).run Try.prog w = .ok (.enter g args) w) :
    Calls Try.prog 26 #[.slice A l.length c, .func (.func g) #[] lb] w fun e w' => e = .returned (.bool (l.any p)) ∧ Below w.heap.size w w' := by
  have HC := Aside0.mk (indexSec_calls A c l w hr g lb p hp eg)
  have hi : decide (idxOf p l ≥ 0) = l.any p := by
    unfold idxOf
    cases h : l.any p
    · simp
    · simp
  obtain ⟨r, hre⟩ : ∃ r, r = idxOf p l := ⟨_, rfl⟩
  rw [← hre] at hi HC
  obtain ⟨b, hbe⟩ : ∃ b, b = l.any p := ⟨_, rfl⟩
  rw [← hbe] at hi ⊢
  have hmax := Kd.C_max hr
  clear hr hp hre hbe
  go_enter Try.func26, Try.ntmps26
  go_wp2_with (refine HC.out.mono ?_; rintro e w' ⟨rfl, hb'⟩)
  go_ret
  exact ⟨rfl, hb'⟩
/-- what is asked of a predicate: at each element, in each later world -/
def PredSym (g : Nat) (lb : Array Value) (p : S38 → Bool) (l : List S38) (w : World) : Prop :=
  ∀ (W : World) (x : S38) (cs : List Value), x ∈ l → Below w.heap.size w W → k38.K W x cs → Calls Try.prog g (#[.agg cs.toArray] ++ lb) W fun e w' => e = .returned (.bool (p x)) ∧ Below W.heap.size W w'
set_option maxHeartbeats 2000000 in
set_option maxRecDepth 100000 in
theorem indexSym_calls (A : Option Addr) (c : Nat) (l : List S38) (w : World) (hr : Kd.C k38 w A l.length l) (g : Nat) (lb : Array Value) (p : S38 → Bool) (hp : PredSym g lb p l w) (eg : ∀ args w, (callFunc g args).run Try.prog w = .ok (.enter g args) w) :
    Calls Try.prog 47 #[.slice A l.length c, .func (.func g) #[] lb] w fun e w' => e = .returned (.int .i64 (idxOf p l)) ∧ Below w.heap.size w w' := by
  have HR := Aside0.mk hr
  have HP := Aside0.mk hp
  have hmax := Kd.C_max hr
  clear hr hp
  go_enter Try.func47, Try.ntmps47
  go_wp2
  go_loopg [5, 8] l.length (fun kq _ v8 wr => ∃ k : Nat, k + kq = l.length ∧ v8 = .int .i64 (k : Int) ∧ Aside0 (Below w.heap.size w wr) ∧ Aside0 (∀ j, j < k → ∀ y, l[j]? = some y → p y = false))
  case atStart => exact ⟨0, by omega, rfl, ⟨Below.refl _ _⟩, ⟨fun j hj => absurd hj (Nat.not_lt_zero _)⟩⟩
  case round =>
    obtain ⟨k, hk, rfl, HB, HN⟩ := hrel
    cases gk with
    | succ gk =>
      have hltb : decide ((k : Int) < (l.length : Int)) = true := by simp; omega
      obtain ⟨ad, cs, e, _, hK, hcell⟩ := Kd.C_get (Kd.C_below HR.out HB.out) z38 (k : Int) (by omega) (by omega)
      rw [Int.toNat_natCast] at hK hcell
      have hx : l[k]? = some (l.getD k z38) := by
        rw [List.getD_eq_getElem?_getD, List.getElem?_eq_getElem (by omega)]
        rfl
      generalize l.getD k z38 = x at hK hx
      have hcall := HP.out wr x cs (List.mem_of_getElem? hx) HB.out hK
      subst e
      have hc : ∀ j u, cs[j]? = some u → wr.cell? (ad.add (k * 6 + j)) = some u := hcell
      obtain rfl := k38_open hK
      have y0 : wr.cell? (ad.add (k * 6)) = some (.string x.f0) := hc 0 _ rfl
      have y1 : wr.cell? ⟨(ad.add (k * 6)).block, (ad.add (k * 6)).off + 1, none⟩ = some (.string x.f1) := by rw [← add_field _ _ 1 (by omega)]; exact hc 1 _ rfl
      have y2 : wr.cell? ⟨(ad.add (k * 6)).block, (ad.add (k * 6)).off + 2, none⟩ = some (.int .i64 x.f2) := by rw [← add_field _ _ 2 (by omega)]; exact hc 2 _ rfl
      have y3 : wr.cell? ⟨(ad.add (k * 6)).block, (ad.add (k * 6)).off + 3, none⟩ = some (.int .i64 x.f3) := by rw [← add_field _ _ 3 (by omega)]; exact hc 3 _ rfl
      have y4 : wr.cell? ⟨(ad.add (k * 6)).block, (ad.add (k * 6)).off + 4, none⟩ = some (.int .i64 x.f4) := by rw [← add_field _ _ 4 (by omega)]; exact hc 4 _ rfl
      have y5 : wr.cell? ⟨(ad.add (k * 6)).block, (ad.add (k * 6)).off + 5, none⟩ = some (.int .i64 x.f5) := by rw [← add_field _ _ 5 (by omega)]; exact hc 5 _ rfl
      have HX := Aside0.mk hx
      clear hK hcell hx HP HR
      cases hq : p x with
      | true =>
        rw [hq] at hcall
        have HC := Aside0.mk hcall
        have HQ := Aside0.mk hq
        clear hcall hq
        go_wp2_with (go_at_fn g; refine HC.out.mono ?_; rintro e w' ⟨rfl, hb'⟩)
        go_ret
        exact ⟨by rw [idxOf_hit p l k x HX.out HQ.out HN.out]; rfl, below_step HB.out hb'⟩
      | false =>
        rw [hq] at hcall
        have HC := Aside0.mk hcall
        have HQ := Aside0.mk hq
        clear hcall hq
        go_wp2_with (go_at_fn g; refine HC.out.mono ?_; rintro e w' ⟨rfl, hb'⟩)
        go_roundg gk
        case measure => omega
        case rel =>
          refine ⟨k + 1, by omega, by go_num, ⟨below_step HB.out hb'⟩, ⟨fun j hj y hy => ?_⟩⟩
          by_cases e : j = k
          · subst e
            rw [HX.out] at hy
            cases hy
            exact HQ.out
          · exact HN.out j (by omega) y hy
    | zero =>
      have hltb : decide ((k : Int) < (l.length : Int)) = false := by simp; omega
      go_wp2
      go_ret
      exact ⟨by rw [idxOf_miss p l (fun j y hy => HN.out j (by have := (List.getElem?_eq_some_iff.1 hy).1; omega) y hy)]; rfl, HB.out⟩
set_option maxRecDepth 100000 in
theorem containsSym_calls (A : Option Addr) (c : Nat) (l : List S38) (w : World) (hr : Kd.C k38 w A l.length l) (g : Nat) (lb : Array Value) (p : S38 → Bool) (hp : PredSym g lb p l w) (eg : ∀ args w, (callFunc g args).run Try.prog w = .ok (.enter g args) w) :
    Calls Try.prog 29 #[.slice A l.length c, .func (.func g) #[] lb] w fun e w' => e = .returned (.bool (l.any p)) ∧ Below w.heap.size w w' := by
  have HC := Aside0.mk (indexSym_calls A c l w hr g lb p hp eg)
  have hi : decide (idxOf p l ≥ 0) = l.any p := by
    unfold idxOf
    cases h : l.any p
    · simp
    · simp
  obtain ⟨r, hre⟩ : ∃ r, r = idxOf p l := ⟨_, rfl⟩
  rw [← hre] at hi HC
  obtain ⟨b, hbe⟩ : ∃ b, b = l.any p := ⟨_, rfl⟩
  rw [← hbe] at hi ⊢
  have hmax := Kd.C_max hr
  clear hr hp hre hbe
  go_enter Try.func29, Try.ntmps29
  go_wp2_with (refine HC.out.mono ?_; rintro e w' ⟨rfl, hb'⟩)
  go_ret
  exact ⟨rfl, hb'⟩
end Go.Proofs.Ytibkcnlcmempgaa.Res
end
