/- Lemmas and contracts, one text behind the other: what the row of this claim needs; no conditions beyond those that each theorem names. -/
import Derived.Test.YtibkcnlcmempgaaRows
import Derived.ChangeArms
import Derived.DataReads
import Derived.SizedLaws
import Derived.Test.YtibkcnlcmempgaaVM3
section
namespace Go.Proofs.Ytibkcnlcmempgaa.Res
set_option linter.unusedVariables false
set_option linter.unusedSimpArgs false
open Go.RowKit Go.Proofs.Ytibkcnlcmempgaa.G Go.Proofs.YtibkcnlcmempgaaW.PrintWords
theorem bind_in {f : S36} (h : symCheck f.f1 (namesOf f) = 0) : ∀ s ∈ f.f1, 0 ≤ s.f4 ∧ s.f4 ≤ 2 := by
  intro s hs
  obtain ⟨i, hi, rfl⟩ := List.getElem_of_mem hs
  have hb := (symCheck_ok h).2.2.2.2.2 i hi
  have he : rd_T38 f.f1 (i : Int) = f.f1[i] := by simp [rd_T38, List.getD, hi]
  unfold symBad at hb
  rw [he] at hb
  have hr : Sym.rightOf f.f1[i] (namesOf f) = true := by
    cases h : Sym.rightOf f.f1[i] (namesOf f)
    · rw [h] at hb
      simp at hb
    · rfl
  unfold Sym.rightOf at hr
  simp only [Bool.and_eq_true, Bool.or_eq_true, beq_iff_eq, decide_eq_true_eq] at hr
  obtain ⟨⟨⟨⟨⟨_, h1⟩, h2⟩, _⟩, _⟩, _⟩ := hr
  omega
theorem sym_zero {f : S36} (h : checkFile f = 0) : symCheck f.f1 (namesOf f) = 0 := by
  unfold checkFile at h
  split at h
  · rename_i h1
    exact absurd h h1
  · rename_i h1
    exact Classical.not_not.1 h1
theorem evs_in {l : List S36} {e : Ev} (h : e ∈ evs l) : e.1 < l.length ∧ e.2.1 < (rd_T36 l (e.1 : Int)).f1.length ∧ e.2.2 = symOf l e.1 e.2.1 := by
  unfold evs at h
  rw [List.mem_flatMap] at h
  obtain ⟨i, hi, h⟩ := h
  obtain ⟨j, hj, rfl⟩ := List.mem_map.1 h
  exact ⟨List.mem_range.1 hi, List.mem_range.1 hj, rfl⟩
theorem rd_mem (l : List S36) (i : Nat) (h : i < l.length) : rd_T36 l (i : Int) ∈ l := by
  unfold rd_T36
  rw [Int.toNat_natCast, List.getD_eq_getElem?_getD, List.getElem?_eq_getElem h]
  exact List.getElem_mem _
theorem sym_mem (l : List S36) (i j : Nat) (h : j < (rd_T36 l (i : Int)).f1.length) : symOf l i j ∈ (rd_T36 l (i : Int)).f1 := by
  unfold symOf rd_T38
  rw [Int.toNat_natCast, List.getD_eq_getElem?_getD, List.getElem?_eq_getElem h]
  exact List.getElem_mem _
theorem evs_bind {l : List S36} (h : checkR l = 0) {e : Ev} (he : e ∈ evs l) : 0 ≤ e.2.2.f4 ∧ e.2.2.f4 ≤ 2 := by
  obtain ⟨h1, h2, h3⟩ := evs_in he
  rw [h3]
  exact bind_in (sym_zero ((fits_of h).2 _ (rd_mem l e.1 h1))) _ (sym_mem l e.1 e.2.1 h2)
theorem bytes_eq {a b : ByteArray} (h : a.data.toList = b.data.toList) : a = b := by
  rw [← asStr_of a, ← asStr_of b, h]
/-- a weak meaning -/
theorem weak_entry {l : List S36} (h : checkR l = 0) (n : ByteArray) (hs : (lk zM (namesAt l l.length) n).strong = 0) : (entryF n (lk zM (namesAt l l.length) n)).f0 = n ∧ (entryF n (lk zM (namesAt l l.length) n)).f3 = 2 := by
  have ht := told_of l n
  unfold entryF
  rw [if_neg (by omega)]
  by_cases hw : 0 < (lk zM (namesAt l l.length) n).weak
  · rw [if_pos hw]
    cases hf : ((evs l).filter (tells n)).filter isWeak with
    | nil =>
      have := ht.weak
      rw [List.countP_eq_length_filter, hf] at this
      simp at this
      omega
    | cons e r =>
      rw [ht.second e r hf]
      have hm : e ∈ ((evs l).filter (tells n)).filter isWeak := by rw [hf]; exact List.mem_cons_self ..
      rw [List.mem_filter, List.mem_filter] at hm
      obtain ⟨⟨h1, h2⟩, h3⟩ := hm
      have hb := evs_bind h h1
      unfold tells at h2
      unfold isWeak at h3
      simp only [Bool.and_eq_true, decide_eq_true_eq, beq_iff_eq, Bool.not_eq_true', beq_eq_false_iff_ne] at h2 h3
      refine ⟨bytes_eq h2.2, ?_⟩
      show e.2.2.f4 = 2
      have := h2.1
      have := h3.2
      omega
  · rw [if_neg hw]
    exact ⟨rfl, rfl⟩
theorem strong_one {l : List S36} (h : checkR l = 0) (hf : faultsS l = []) (n : ByteArray) (hn : n ∈ rise (namesAt l l.length)) : (lk zM (namesAt l l.length) n).strong = 0 ∨ (lk zM (namesAt l l.length) n).strong = 1 := by
  have h0 := (told_of l n).strong
  unfold faultsS at hf
  rw [if_neg (by simp [h])] at hf
  unfold faultsFS at hf
  simp only [List.append_eq_nil_iff] at hf
  have h1 := hf.1.1.1
  unfold wrongS at h1
  rw [List.map_eq_nil_iff, List.filter_eq_nil_iff] at h1
  have h2 := h1 n hn
  unfold twice at h2
  simp only [decide_eq_true_eq] at h2
  omega
end Go.Proofs.Ytibkcnlcmempgaa.Res
end
section
namespace Go.Proofs.Ytibkcnlcmempgaa.G
open Go.RowKit Go.Proofs.YtibkcnlcmempgaaW.PrintWords Go.Proofs.YtibkcnlcmempgaaW.PrintLast Go.Proofs.YtibkcnlcmempgaaW.PrintMore
attribute [local go_sem] max2_int min2_int max_two min_two max_three min_three max_four min_four   -- for this text's walks alone
set_option linter.unusedVariables false
set_option linter.unusedSimpArgs false
def resolve_Find.l0 : Nat → ByteArray → List (S42) → Int → Int → Option (ByteArray × Int × Int × Int × Int × Bool)
 | 0, _, _, _, _ => none
 | k + 1, x1, x8, x9, x10 => if x10 < x9 then (if 0 ≤ x10 then (if x10 < (x8.length : Int) then (if ((rd_T42 x8 x10).f0).toList = x1.toList then (some ((rd_T42 x8 x10).f0, (rd_T42 x8 x10).f1, (rd_T42 x8 x10).f2, (rd_T42 x8 x10).f3, (rd_T42 x8 x10).f4, true)) else (resolve_Find.l0 k x1 x8 x9 (wrap64 (x10 + 1)))) else (none)) else (none)) else (some ((⟨#[]⟩ : ByteArray), 0, 0, 0, 0, false))
def resolve_Find.f (k : Nat) (l0 : List (S42)) (a1 : ByteArray) : Option (ByteArray × Int × Int × Int × Int × Bool) := resolve_Find.l0 k a1 l0 (l0.length : Int) 0
set_option maxHeartbeats 8000000 in
set_option maxRecDepth 100000 in
theorem resolve_Find.calls (k : Nat) (A0 : Option Addr) (c0 : Nat) (l0 : List (S42)) (a1 : ByteArray) (r1 : ByteArray) (r2 : Int) (r3 : Int) (r4 : Int) (r5 : Int) (r6 : Bool) (w : World) (hr0 : Kd.C k42 w A0 l0.length l0) (hc0 : l0.length ≤ c0) (h : resolve_Find.f k l0 a1 = some (r1, r2, r3, r4, r5, r6)) :
  Calls Try.prog 17 #[.slice A0 l0.length c0, .string a1] w fun e w' => e = .returned (.tuple #[.agg #[.string r1, .int .i64 r2, .int .i64 r3, .int .i64 r4, .int .i64 r5], .bool r6]) ∧ Below w.heap.size w w' := by
 have hu42 := Try.underlying42
 have HR0 := Aside0.mk hr0
 have HC0 := Aside0.mk hc0
 clear hr0 hc0
 have HB := Aside0.mk (Below.refl w.heap.size w)
 have H : (resolve_Find.l0 k a1 l0 (l0.length : Int) 0) = some (r1, r2, r3, r4, r5, r6) := h
 clear h
 have H' := Aside0.mk H
 clear H
 go_enter Try.func17, Try.ntmps17
 go_wp2_with (first | ((with_reducible refine gate_dst (N := 4) rfl ?_); refine box_event ?hg (N := 4) ?hd (cs := #[.string (⟨#[]⟩ : ByteArray), .int .i64 0, .int .i64 0, .int .i64 0, .int .i64 0]) (t := 42) ?hr ?_; (case hd => rfl); (case hg => rfl); (case hr => first | (go_simp; done) | (go_simp; rfl)); intro gb101 hg w3 hbox hb; have n0_ := Aside0.mk (below_step (by repeat (first | (with_reducible first | exact HB.out | apply below_alloc | apply pw_below_drewN | apply below_drew1) | exact HB.out)) hb); have n1_ := Aside0.mk (hbox); have n2_ := Aside0.mk ((by rw [hg]; exact (below_size (by repeat (first | (with_reducible first | exact HB.out | apply below_alloc | apply pw_below_drewN | apply below_drew1) | exact HB.out))) : w.heap.size ≤ gb101)); have n3_ := Aside0.mk ((by rw [hg]; exact (below_size (by repeat (first | (with_reducible first | exact HB.out | apply below_alloc | apply pw_below_drewN | apply below_drew1) | exact HB.out))) : w.heap.size ≤ gb101)); clear HB; have HB := n0_; have BK101 := n1_; have GW101 := n2_; have GE101 := n3_; clear n0_ n1_ n2_ n3_; clear hb hbox hg))
 go_loopg [10] k (fun kq v10 w' => ∃ (x10_1 : Int) (x102000_1 : ByteArray) (x102001_1 : Int) (x102002_1 : Int) (x102003_1 : Int) (x102004_1 : Int), v10 = .int .i64 x10_1 ∧ Aside0 (resolve_Find.l0 kq a1 l0 (l0.length : Int) x10_1 = some (r1, r2, r3, r4, r5, r6)) ∧ Aside0 (kq ≤ k) ∧ Aside0 (w'.heap[gb101]? = some (.cells #[.string x102000_1, .int .i64 x102001_1, .int .i64 x102002_1, .int .i64 x102003_1, .int .i64 x102004_1] 42 (0, 0))) ∧ Aside0 (Below w.heap.size w w'))
 case atStart => exact ⟨(0), ((⟨#[]⟩ : ByteArray)), (0), (0), (0), (0), (by first | rfl | (simp; done) | (simp [*]; done) | (simp [show ∀ l_ : List UInt8, (l_ != []) = !l_.isEmpty from fun l_ => by cases l_ <;> rfl]; done) | (congr 1; refine congr (congrArg (Go.bits _ _) ?_) ?_ <;> omega)), H', ⟨Nat.le_refl _⟩, ⟨by (with_reducible repeat (first | refine blk_drewN ?_ _ | refine blk_drew ?_ | refine blk_alloc ?_ _)); exact BK101.out⟩, ⟨by repeat (first | (with_reducible first | exact HB.out | apply below_alloc | apply pw_below_drewN | apply below_drew1 | refine below_set ?_ GE101.out) | exact HB.out)⟩⟩
 case round =>
  clear H'
  try clear c1
  try clear p2
  obtain ⟨x10_1, x102000_1, x102001_1, x102002_1, x102003_1, x102004_1, rfl, HA, HK1, BK101, HB⟩ := hrel
  cases gk with
  | zero => exact absurd HA.out (by simp [resolve_Find.l0])
  | succ k1 =>
   have H := HA.out
   clear HA
   simp only [resolve_Find.l0] at H
   by_cases c4 : x10_1 < (l0.length : Int)
   ·
    rw [if_pos c4] at H
    have c4b0 : decide (x10_1 < (l0.length : Int)) = true := decide_eq_true c4
    clear c4
    by_cases c5 : 0 ≤ x10_1
    ·
     rw [if_pos c5] at H
     have c5b0 : decide (0 ≤ x10_1) = true := decide_eq_true c5
     clear c5
     by_cases c6 : x10_1 < (l0.length : Int)
     ·
      rw [if_pos c6] at H
      have c6b0 : decide (x10_1 < (l0.length : Int)) = true := decide_eq_true c6
      clear c6
      by_cases c7 : ((rd_T42 l0 x10_1).f0).toList = a1.toList
      ·
       rw [if_pos c7] at H
       have c7b0 : (((rd_T42 l0 x10_1).f0).toList == a1.toList) = true := beq_iff_eq.mpr c7
       have c7b1 : (((rd_T42 l0 x10_1).f0).toList != a1.toList) = false := bne_eq_false_iff_eq.mpr c7
       clear c7
       simp only [Option.some.injEq, Prod.mk.injEq] at H
       obtain ⟨rfl, rfl, rfl, rfl, rfl, rfl⟩ := H
       have p102 : 0 ≤ (x10_1 : Int) := of_decide_eq_true (by first | (with_reducible assumption) | assumption)
       have q102 : x10_1 < (l0.length : Int) := of_decide_eq_true (by first | (with_reducible assumption) | assumption)
       obtain ⟨ad102, e102, hx102_0, hx102_1, hx102_2, hx102_3, hx102_4⟩ := at_T42 HR0.out x10_1 p102 q102
       cases e102
       replace hx102_0 := (HB.out.cell (World.block_lt_of_cell? w _ hx102_0)).trans hx102_0
       replace hx102_1 := (HB.out.cell (World.block_lt_of_cell? w _ hx102_1)).trans hx102_1
       replace hx102_2 := (HB.out.cell (World.block_lt_of_cell? w _ hx102_2)).trans hx102_2
       replace hx102_3 := (HB.out.cell (World.block_lt_of_cell? w _ hx102_3)).trans hx102_3
       replace hx102_4 := (HB.out.cell (World.block_lt_of_cell? w _ hx102_4)).trans hx102_4
       replace p102 := eq_true p102
       replace q102 := eq_true q102
       go_wp2_with (first | ((with_reducible refine gate_dst (N := 7) rfl ?_); refine box_event ?hg (N := 7) ?hd (cs := #[.string (⟨#[]⟩ : ByteArray), .int .i64 0, .int .i64 0, .int .i64 0, .int .i64 0]) (t := 42) ?hr ?_; (case hd => rfl); (case hg => rfl); (case hr => first | (go_simp; done) | (go_simp; rfl)); intro gb103 hg w8 hbox hb; have n0_ := Aside0.mk (blk_below (g := gb101) (o := .cells #[.string x102000_1, .int .i64 x102001_1, .int .i64 x102002_1, .int .i64 x102003_1, .int .i64 x102004_1] 42 (0, 0)) (by (with_reducible repeat (first | refine blk_drewN ?_ _ | refine blk_drew ?_ | refine blk_alloc ?_ _)); exact BK101.out) hb); have n1_ := Aside0.mk (below_step (by repeat (first | (with_reducible first | exact HB.out | apply below_alloc | apply pw_below_drewN | apply below_drew1 | refine below_set ?_ GE101.out) | exact HB.out)) hb); have n2_ := Aside0.mk (hbox); have n3_ := Aside0.mk ((by rw [hg]; exact (below_size (by repeat (first | (with_reducible first | exact HB.out | apply below_alloc | apply pw_below_drewN | apply below_drew1 | refine below_set ?_ GE101.out) | exact HB.out))) : w.heap.size ≤ gb103)); have n4_ := Aside0.mk ((by rw [hg]; exact (below_size (by repeat (first | (with_reducible first | exact HB.out | apply below_alloc | apply pw_below_drewN | apply below_drew1 | refine below_set ?_ GE101.out) | exact HB.out))) : w.heap.size ≤ gb103)); have n5_ := Aside0.mk ((by rw [hg]; exact Nat.ne_of_lt (blk_lt (g := gb101) (o := .cells #[.string x102000_1, .int .i64 x102001_1, .int .i64 x102002_1, .int .i64 x102003_1, .int .i64 x102004_1] 42 (0, 0)) (by (with_reducible repeat (first | refine blk_drewN ?_ _ | refine blk_drew ?_ | refine blk_alloc ?_ _)); exact BK101.out)) : gb101 ≠ gb103)); have n6_ := Aside0.mk ((by rw [hg]; exact Nat.ne_of_gt (blk_lt (g := gb101) (o := .cells #[.string x102000_1, .int .i64 x102001_1, .int .i64 x102002_1, .int .i64 x102003_1, .int .i64 x102004_1] 42 (0, 0)) (by (with_reducible repeat (first | refine blk_drewN ?_ _ | refine blk_drew ?_ | refine blk_alloc ?_ _)); exact BK101.out)) : gb103 ≠ gb101)); clear BK101; clear HB; have BK101 := n0_; have HB := n1_; have BK103 := n2_; have GW103 := n3_; have GE103 := n4_; have NB101_103 := n5_; have NB103_101 := n6_; clear n0_ n1_ n2_ n3_ n4_ n5_ n6_; clear hb hbox hg; have hnb9 := NB103_101.out; have hnc9 := NB101_103.out; have hcz10_0 : w8.cell? ⟨gb103, 0, none⟩ = some (.string (⟨#[]⟩ : ByteArray)) := (blk_cell BK103.out 0).trans rfl; have hcz10_1 : w8.cell? ⟨gb103, 1, none⟩ = some (.int .i64 0) := (blk_cell BK103.out 1).trans rfl; have hcz10_2 : w8.cell? ⟨gb103, 2, none⟩ = some (.int .i64 0) := (blk_cell BK103.out 2).trans rfl; have hcz10_3 : w8.cell? ⟨gb103, 3, none⟩ = some (.int .i64 0) := (blk_cell BK103.out 3).trans rfl; have hcz10_4 : w8.cell? ⟨gb103, 4, none⟩ = some (.int .i64 0) := (blk_cell BK103.out 4).trans rfl; have hfz10_0 := blk_frozen BK103.out 0; have hfz10_1 := blk_frozen BK103.out 1; have hfz10_2 := blk_frozen BK103.out 2; have hfz10_3 := blk_frozen BK103.out 3; have hfz10_4 := blk_frozen BK103.out 4; have hcz11_0 : w8.cell? ⟨gb101, 0, none⟩ = some (.string x102000_1) := (blk_cell BK101.out 0).trans rfl; have hcz11_1 : w8.cell? ⟨gb101, 1, none⟩ = some (.int .i64 x102001_1) := (blk_cell BK101.out 1).trans rfl; have hcz11_2 : w8.cell? ⟨gb101, 2, none⟩ = some (.int .i64 x102002_1) := (blk_cell BK101.out 2).trans rfl; have hcz11_3 : w8.cell? ⟨gb101, 3, none⟩ = some (.int .i64 x102003_1) := (blk_cell BK101.out 3).trans rfl; have hcz11_4 : w8.cell? ⟨gb101, 4, none⟩ = some (.int .i64 x102004_1) := (blk_cell BK101.out 4).trans rfl; have hfz11_0 := blk_frozen BK101.out 0; have hfz11_1 := blk_frozen BK101.out 1; have hfz11_2 := blk_frozen BK101.out 2; have hfz11_3 := blk_frozen BK101.out 3; have hfz11_4 := blk_frozen BK101.out 4))
       refine bodyPost_ret (results_ct rfl _ _ gb101 42 #[.string ((rd_T42 l0 x10_1).f0), .int .i64 ((rd_T42 l0 x10_1).f1), .int .i64 ((rd_T42 l0 x10_1).f2), .int .i64 ((rd_T42 l0 x10_1).f3), .int .i64 ((rd_T42 l0 x10_1).f4)] (0, 0) _ rfl (by (with_reducible repeat (first | refine blk_drewN ?_ _ | refine blk_drew ?_ | refine blk_alloc ?_ _)); refine blk_put (cs := #[.string ((rd_T42 l0 x10_1).f0), .int .i64 ((rd_T42 l0 x10_1).f1), .int .i64 ((rd_T42 l0 x10_1).f2), .int .i64 ((rd_T42 l0 x10_1).f3), .int .i64 x102004_1]) ?_ 4 _ rfl; (with_reducible repeat (first | refine blk_drewN ?_ _ | refine blk_drew ?_ | refine blk_alloc ?_ _)); refine blk_put (cs := #[.string ((rd_T42 l0 x10_1).f0), .int .i64 ((rd_T42 l0 x10_1).f1), .int .i64 ((rd_T42 l0 x10_1).f2), .int .i64 x102003_1, .int .i64 x102004_1]) ?_ 3 _ rfl; (with_reducible repeat (first | refine blk_drewN ?_ _ | refine blk_drew ?_ | refine blk_alloc ?_ _)); refine blk_put (cs := #[.string ((rd_T42 l0 x10_1).f0), .int .i64 ((rd_T42 l0 x10_1).f1), .int .i64 x102002_1, .int .i64 x102003_1, .int .i64 x102004_1]) ?_ 2 _ rfl; (with_reducible repeat (first | refine blk_drewN ?_ _ | refine blk_drew ?_ | refine blk_alloc ?_ _)); refine blk_put (cs := #[.string ((rd_T42 l0 x10_1).f0), .int .i64 x102001_1, .int .i64 x102002_1, .int .i64 x102003_1, .int .i64 x102004_1]) ?_ 1 _ rfl; (with_reducible repeat (first | refine blk_drewN ?_ _ | refine blk_drew ?_ | refine blk_alloc ?_ _)); refine blk_put (cs := #[.string x102000_1, .int .i64 x102001_1, .int .i64 x102002_1, .int .i64 x102003_1, .int .i64 x102004_1]) ?_ 0 _ rfl; (with_reducible repeat (first | refine blk_drewN ?_ _ | refine blk_drew ?_ | refine blk_alloc ?_ _)); refine blk_far ?_ NB101_103.out _; (with_reducible repeat (first | refine blk_drewN ?_ _ | refine blk_drew ?_ | refine blk_alloc ?_ _)); refine blk_far ?_ NB101_103.out _; (with_reducible repeat (first | refine blk_drewN ?_ _ | refine blk_drew ?_ | refine blk_alloc ?_ _)); refine blk_far ?_ NB101_103.out _; (with_reducible repeat (first | refine blk_drewN ?_ _ | refine blk_drew ?_ | refine blk_alloc ?_ _)); refine blk_far ?_ NB101_103.out _; (with_reducible repeat (first | refine blk_drewN ?_ _ | refine blk_drew ?_ | refine blk_alloc ?_ _)); refine blk_far ?_ NB101_103.out _; (with_reducible repeat (first | refine blk_drewN ?_ _ | refine blk_drew ?_ | refine blk_alloc ?_ _)); exact BK101.out) Try.underlying42 rfl (by kernel_rfl)) rfl ?_
       exact ⟨by first | rfl | (simp [errW_none, errW_some] <;> rfl) | (simp [*, errW_none, errW_some] <;> rfl), by repeat (first | (with_reducible first | exact HB.out | apply below_alloc | apply pw_below_drewN | apply below_drew1 | refine below_set ?_ GE101.out | refine below_set ?_ GE103.out) | exact HB.out)⟩
      ·
       rw [if_neg c7] at H
       have c7b0 : (((rd_T42 l0 x10_1).f0).toList == a1.toList) = false := beq_eq_false_iff_ne.mpr c7
       have c7b1 : (((rd_T42 l0 x10_1).f0).toList != a1.toList) = true := bne_iff_ne.mpr c7
       have H' := Aside0.mk H
       clear H
       have p102 : 0 ≤ (x10_1 : Int) := of_decide_eq_true (by first | (with_reducible assumption) | assumption)
       have q102 : x10_1 < (l0.length : Int) := of_decide_eq_true (by first | (with_reducible assumption) | assumption)
       obtain ⟨ad102, e102, hx102_0, hx102_1, hx102_2, hx102_3, hx102_4⟩ := at_T42 HR0.out x10_1 p102 q102
       cases e102
       replace hx102_0 := (HB.out.cell (World.block_lt_of_cell? w _ hx102_0)).trans hx102_0
       replace hx102_1 := (HB.out.cell (World.block_lt_of_cell? w _ hx102_1)).trans hx102_1
       replace hx102_2 := (HB.out.cell (World.block_lt_of_cell? w _ hx102_2)).trans hx102_2
       replace hx102_3 := (HB.out.cell (World.block_lt_of_cell? w _ hx102_3)).trans hx102_3
       replace hx102_4 := (HB.out.cell (World.block_lt_of_cell? w _ hx102_4)).trans hx102_4
       replace p102 := eq_true p102
       replace q102 := eq_true q102
       go_wp2_with (first | ((with_reducible refine gate_dst (N := 7) rfl ?_); refine box_event ?hg (N := 7) ?hd (cs := #[.string (⟨#[]⟩ : ByteArray), .int .i64 0, .int .i64 0, .int .i64 0, .int .i64 0]) (t := 42) ?hr ?_; (case hd => rfl); (case hg => rfl); (case hr => first | (go_simp; done) | (go_simp; rfl)); intro gb103 hg w12 hbox hb; have n0_ := Aside0.mk (blk_below (g := gb101) (o := .cells #[.string x102000_1, .int .i64 x102001_1, .int .i64 x102002_1, .int .i64 x102003_1, .int .i64 x102004_1] 42 (0, 0)) (by (with_reducible repeat (first | refine blk_drewN ?_ _ | refine blk_drew ?_ | refine blk_alloc ?_ _)); exact BK101.out) hb); have n1_ := Aside0.mk (below_step (by repeat (first | (with_reducible first | exact HB.out | apply below_alloc | apply pw_below_drewN | apply below_drew1 | refine below_set ?_ GE101.out) | exact HB.out)) hb); have n2_ := Aside0.mk (hbox); have n3_ := Aside0.mk ((by rw [hg]; exact (below_size (by repeat (first | (with_reducible first | exact HB.out | apply below_alloc | apply pw_below_drewN | apply below_drew1 | refine below_set ?_ GE101.out) | exact HB.out))) : w.heap.size ≤ gb103)); have n4_ := Aside0.mk ((by rw [hg]; exact (below_size (by repeat (first | (with_reducible first | exact HB.out | apply below_alloc | apply pw_below_drewN | apply below_drew1 | refine below_set ?_ GE101.out) | exact HB.out))) : w.heap.size ≤ gb103)); have n5_ := Aside0.mk ((by rw [hg]; exact Nat.ne_of_lt (blk_lt (g := gb101) (o := .cells #[.string x102000_1, .int .i64 x102001_1, .int .i64 x102002_1, .int .i64 x102003_1, .int .i64 x102004_1] 42 (0, 0)) (by (with_reducible repeat (first | refine blk_drewN ?_ _ | refine blk_drew ?_ | refine blk_alloc ?_ _)); exact BK101.out)) : gb101 ≠ gb103)); have n6_ := Aside0.mk ((by rw [hg]; exact Nat.ne_of_gt (blk_lt (g := gb101) (o := .cells #[.string x102000_1, .int .i64 x102001_1, .int .i64 x102002_1, .int .i64 x102003_1, .int .i64 x102004_1] 42 (0, 0)) (by (with_reducible repeat (first | refine blk_drewN ?_ _ | refine blk_drew ?_ | refine blk_alloc ?_ _)); exact BK101.out)) : gb103 ≠ gb101)); clear BK101; clear HB; have BK101 := n0_; have HB := n1_; have BK103 := n2_; have GW103 := n3_; have GE103 := n4_; have NB101_103 := n5_; have NB103_101 := n6_; clear n0_ n1_ n2_ n3_ n4_ n5_ n6_; clear hb hbox hg; have hnb13 := NB103_101.out; have hnc13 := NB101_103.out; have hcz14_0 : w12.cell? ⟨gb103, 0, none⟩ = some (.string (⟨#[]⟩ : ByteArray)) := (blk_cell BK103.out 0).trans rfl; have hcz14_1 : w12.cell? ⟨gb103, 1, none⟩ = some (.int .i64 0) := (blk_cell BK103.out 1).trans rfl; have hcz14_2 : w12.cell? ⟨gb103, 2, none⟩ = some (.int .i64 0) := (blk_cell BK103.out 2).trans rfl; have hcz14_3 : w12.cell? ⟨gb103, 3, none⟩ = some (.int .i64 0) := (blk_cell BK103.out 3).trans rfl; have hcz14_4 : w12.cell? ⟨gb103, 4, none⟩ = some (.int .i64 0) := (blk_cell BK103.out 4).trans rfl; have hfz14_0 := blk_frozen BK103.out 0; have hfz14_1 := blk_frozen BK103.out 1; have hfz14_2 := blk_frozen BK103.out 2; have hfz14_3 := blk_frozen BK103.out 3; have hfz14_4 := blk_frozen BK103.out 4))
       go_roundg k1
       case measure => have := HK1.out; omega
       case rel => exact ⟨(wrap64 (x10_1 + 1)), (x102000_1), (x102001_1), (x102002_1), (x102003_1), (x102004_1), (by first | rfl | (simp; done) | (simp [*]; done) | (simp [show ∀ l_ : List UInt8, (l_ != []) = !l_.isEmpty from fun l_ => by cases l_ <;> rfl]; done) | (congr 1; refine congr (congrArg (Go.bits _ _) ?_) ?_ <;> omega)), H', ⟨by have := HK1.out; omega⟩, ⟨by (with_reducible repeat (first | refine blk_drewN ?_ _ | refine blk_drew ?_ | refine blk_alloc ?_ _)); refine blk_far ?_ NB101_103.out _; (with_reducible repeat (first | refine blk_drewN ?_ _ | refine blk_drew ?_ | refine blk_alloc ?_ _)); refine blk_far ?_ NB101_103.out _; (with_reducible repeat (first | refine blk_drewN ?_ _ | refine blk_drew ?_ | refine blk_alloc ?_ _)); refine blk_far ?_ NB101_103.out _; (with_reducible repeat (first | refine blk_drewN ?_ _ | refine blk_drew ?_ | refine blk_alloc ?_ _)); refine blk_far ?_ NB101_103.out _; (with_reducible repeat (first | refine blk_drewN ?_ _ | refine blk_drew ?_ | refine blk_alloc ?_ _)); refine blk_far ?_ NB101_103.out _; (with_reducible repeat (first | refine blk_drewN ?_ _ | refine blk_drew ?_ | refine blk_alloc ?_ _)); exact BK101.out⟩, ⟨by repeat (first | (with_reducible first | exact HB.out | apply below_alloc | apply pw_below_drewN | apply below_drew1 | refine below_set ?_ GE101.out | refine below_set ?_ GE103.out) | exact HB.out)⟩⟩
     ·
      rw [if_neg c6] at H
      exact absurd H (by simp)
    ·
     rw [if_neg c5] at H
     exact absurd H (by simp)
   ·
    rw [if_neg c4] at H
    have c4b0 : decide (x10_1 < (l0.length : Int)) = false := decide_eq_false c4
    clear c4
    simp only [Option.some.injEq, Prod.mk.injEq] at H
    obtain ⟨rfl, rfl, rfl, rfl, rfl, rfl⟩ := H
    have hcz15_0 : wr.cell? ⟨gb101, 0, none⟩ = some (.string x102000_1) := (blk_cell BK101.out 0).trans rfl
    have hcz15_1 : wr.cell? ⟨gb101, 1, none⟩ = some (.int .i64 x102001_1) := (blk_cell BK101.out 1).trans rfl
    have hcz15_2 : wr.cell? ⟨gb101, 2, none⟩ = some (.int .i64 x102002_1) := (blk_cell BK101.out 2).trans rfl
    have hcz15_3 : wr.cell? ⟨gb101, 3, none⟩ = some (.int .i64 x102003_1) := (blk_cell BK101.out 3).trans rfl
    have hcz15_4 : wr.cell? ⟨gb101, 4, none⟩ = some (.int .i64 x102004_1) := (blk_cell BK101.out 4).trans rfl
    have hfz15_0 := blk_frozen BK101.out 0
    have hfz15_1 := blk_frozen BK101.out 1
    have hfz15_2 := blk_frozen BK101.out 2
    have hfz15_3 := blk_frozen BK101.out 3
    have hfz15_4 := blk_frozen BK101.out 4
    go_wp2
    refine bodyPost_ret (results_ct rfl _ _ gb101 42 #[.string (⟨#[]⟩ : ByteArray), .int .i64 0, .int .i64 0, .int .i64 0, .int .i64 0] (0, 0) _ rfl (by (with_reducible repeat (first | refine blk_drewN ?_ _ | refine blk_drew ?_ | refine blk_alloc ?_ _)); refine blk_put (cs := #[.string (⟨#[]⟩ : ByteArray), .int .i64 0, .int .i64 0, .int .i64 0, .int .i64 x102004_1]) ?_ 4 _ rfl; (with_reducible repeat (first | refine blk_drewN ?_ _ | refine blk_drew ?_ | refine blk_alloc ?_ _)); refine blk_put (cs := #[.string (⟨#[]⟩ : ByteArray), .int .i64 0, .int .i64 0, .int .i64 x102003_1, .int .i64 x102004_1]) ?_ 3 _ rfl; (with_reducible repeat (first | refine blk_drewN ?_ _ | refine blk_drew ?_ | refine blk_alloc ?_ _)); refine blk_put (cs := #[.string (⟨#[]⟩ : ByteArray), .int .i64 0, .int .i64 x102002_1, .int .i64 x102003_1, .int .i64 x102004_1]) ?_ 2 _ rfl; (with_reducible repeat (first | refine blk_drewN ?_ _ | refine blk_drew ?_ | refine blk_alloc ?_ _)); refine blk_put (cs := #[.string (⟨#[]⟩ : ByteArray), .int .i64 x102001_1, .int .i64 x102002_1, .int .i64 x102003_1, .int .i64 x102004_1]) ?_ 1 _ rfl; (with_reducible repeat (first | refine blk_drewN ?_ _ | refine blk_drew ?_ | refine blk_alloc ?_ _)); refine blk_put (cs := #[.string x102000_1, .int .i64 x102001_1, .int .i64 x102002_1, .int .i64 x102003_1, .int .i64 x102004_1]) ?_ 0 _ rfl; (with_reducible repeat (first | refine blk_drewN ?_ _ | refine blk_drew ?_ | refine blk_alloc ?_ _)); exact BK101.out) Try.underlying42 rfl (by kernel_rfl)) rfl ?_
    exact ⟨by first | rfl | (simp [errW_none, errW_some] <;> rfl) | (simp [*, errW_none, errW_some] <;> rfl), by repeat (first | (with_reducible first | exact HB.out | apply below_alloc | apply pw_below_drewN | apply below_drew1 | refine below_set ?_ GE101.out) | exact HB.out)⟩
end Go.Proofs.Ytibkcnlcmempgaa.G
end
section
namespace Go.Proofs.Ytibkcnlcmempgaa.Res
set_option linter.unusedVariables false
set_option linter.unusedSimpArgs false
open Go.RowKit Go.Proofs.Ytibkcnlcmempgaa.G Go.Proofs.YtibkcnlcmempgaaW.PrintWords
theorem rd_left (l : List S36) (m : S36) (i : Nat) (h : i < l.length) : rd_T36 (l ++ [m]) (i : Int) = rd_T36 l (i : Int) := by
  simp [rd_T36, List.getD, List.getElem?_append_left h]
theorem flatMap_same {α β : Type} {f g : α → List β} : ∀ {l : List α}, (∀ a ∈ l, f a = g a) → l.flatMap f = l.flatMap g
  | [], _ => rfl
  | a :: l, h => by rw [List.flatMap_cons, List.flatMap_cons, h a (List.mem_cons_self ..), flatMap_same fun b hb => h b (List.mem_cons_of_mem _ hb)]
theorem evs_more (l : List S36) (m : S36) : ∃ es, evs (l ++ [m]) = evs l ++ es := by
  refine ⟨(List.range (rd_T36 (l ++ [m]) (l.length : Int)).f1.length).map fun (j : Nat) => (l.length, j, symOf (l ++ [m]) l.length j), ?_⟩
  unfold evs
  rw [List.length_append, List.length_singleton, List.range_succ, List.flatMap_append, List.flatMap_singleton]
  congr 1
  refine flatMap_same ?_
  intro i hi
  have hi' := List.mem_range.1 hi
  rw [rd_left l m i hi']
  refine List.map_congr_left fun j _ => ?_
  unfold symOf
  rw [rd_left l m i hi']
theorem mem_rise {α : Type} {tb : List (Key × α)} {n : ByteArray} (h : n.data.toList ∈ tb.map (·.1)) : n ∈ rise tb := by
  obtain ⟨p, hp, e⟩ := List.mem_map.1 h
  unfold rise risen
  refine List.mem_map.2 ⟨n.data.toList, ?_, bytes_eq (asStr_data _)⟩
  rw [List.mem_mergeSort, List.map_map]
  exact List.mem_map.2 ⟨p, hp, by simp only [Function.comp, asStr_data]; exact e⟩
theorem rise_more (l : List S36) (m : S36) {n : ByteArray} (h : n ∈ rise (namesAt l l.length)) : n ∈ rise (namesAt (l ++ [m]) (l ++ [m]).length) := by
  have h1 := rise_mem h
  refine mem_rise ?_
  obtain ⟨es, he⟩ := evs_more l m
  rw [names_evs, keys_fold] at h1 ⊢
  rcases h1 with h1 | ⟨e, h2, h3⟩
  · exact .inl h1
  · exact .inr ⟨e, by rw [he]; exact List.mem_append_left _ h2, h3⟩
/-- the one strong definition -/
theorem the_strong {l : List S36} {n : ByteArray} (h : (lk zM (namesAt l l.length) n).strong = 1) : ∃ e, ((evs l).filter (tells n)).filter isStrong = [e] ∧ entryF n (lk zM (namesAt l l.length) n) = entE e ∧ e.2.2.f0 = n := by
  have ht := told_of l n
  have hl : (((evs l).filter (tells n)).filter isStrong).length = 1 := by
    have := ht.strong
    rw [h, List.countP_eq_length_filter] at this
    omega
  obtain ⟨e, hx⟩ := List.length_eq_one_iff.1 hl
  have hm : e ∈ ((evs l).filter (tells n)).filter isStrong := by rw [hx]; exact List.mem_singleton.2 rfl
  rw [List.mem_filter, List.mem_filter] at hm
  refine ⟨e, hx, ?_, ?_⟩
  · unfold entryF
    rw [if_pos (by omega), ht.first e [] hx]
  · have h2 := hm.1.2
    unfold tells at h2
    simp only [Bool.and_eq_true, decide_eq_true_eq, beq_iff_eq] at h2
    exact bytes_eq h2.2
theorem entry_name {l : List S36} (h : checkR l = 0) (hf : faultsS l = []) (n : ByteArray) (hn : n ∈ rise (namesAt l l.length)) : (entryF n (lk zM (namesAt l l.length) n)).f0 = n := by
  rcases strong_one h hf n hn with hs | hs
  · exact (weak_entry h n hs).1
  · obtain ⟨e, _, h2, h3⟩ := the_strong hs
    rw [h2]
    exact h3
theorem entry_more {l : List S36} (m : S36) (h : checkR l = 0) (hf : faultsS l = []) (h' : checkR (l ++ [m]) = 0) (hf' : faultsS (l ++ [m]) = []) (n : ByteArray) (hn : n ∈ rise (namesAt l l.length))
    (hb : (entryF n (lk zM (namesAt l l.length) n)).f3 = 1) : entryF n (lk zM (namesAt (l ++ [m]) (l ++ [m]).length) n) = entryF n (lk zM (namesAt l l.length) n) := by
  rcases strong_one h hf n hn with hs | hs
  · have := (weak_entry h n hs).2
    omega
  · obtain ⟨e, h1, h2, h3⟩ := the_strong hs
    have hs' : (lk zM (namesAt (l ++ [m]) (l ++ [m]).length) n).strong = 1 := by
      rcases strong_one h' hf' n (rise_more l m hn) with hz | hz
      · have ht := (told_of (l ++ [m]) n).strong
        obtain ⟨es, he⟩ := evs_more l m
        rw [hz, he, List.countP_eq_length_filter, List.filter_append, List.filter_append, h1] at ht
        simp at ht
        omega
      · exact hz
    obtain ⟨e', h1', h2', h3'⟩ := the_strong hs'
    obtain ⟨es, he⟩ := evs_more l m
    rw [he, List.filter_append, List.filter_append, h1] at h1'
    have : e = e' := by
      have := congrArg List.head? h1'
      simpa using this
    rw [h2', h2, this]
theorem rd_get (t : List S42) (j : Nat) (h : j < t.length) : rd_T42 t (j : Int) = t[j] := by
  simp [rd_T42, List.getD, h]
theorem nextM (i : Nat) (h : i < 1000000000000000) : wrap64 ((i : Int) + 1) = ((i + 1 : Nat) : Int) := by
  unfold wrap64
  omega
theorem find_in (t : List S42) (n : ByteArray) (hl : t.length < 1000000000000000) (F : S42) (hF : ∀ x ∈ t, x.f0.toList = n.toList → x = F) (e : Nat) : ∀ (m i : Nat), i + m = t.length → (∃ j : Nat, i ≤ j ∧ j < t.length ∧ (rd_T42 t (j : Int)).f0.toList = n.toList) →
    resolve_Find.l0 (m + 1 + e) n t (t.length : Int) (i : Int) = some (F.f0, F.f1, F.f2, F.f3, F.f4, true) := by
  intro m
  induction m with
  | zero =>
    rintro i hi ⟨j, hj, hk, _⟩
    omega
  | succ m ih =>
    rintro i hi ⟨j, hj, hk, hn⟩
    rw [show m + 1 + 1 + e = (m + 1 + e) + 1 by omega, resolve_Find.l0, if_pos (by omega), if_pos (by omega), if_pos (by omega), nextM i (by omega)]
    by_cases h : (rd_T42 t (i : Int)).f0.toList = n.toList
    · rw [if_pos h]
      have hm : rd_T42 t (i : Int) ∈ t := by
        have : rd_T42 t (i : Int) = t[i]'(by omega) := by simp [rd_T42, List.getD, show i < t.length by omega]
        rw [this]
        exact List.getElem_mem _
      rw [hF _ hm h]
    · rw [if_neg h]
      refine ih (i + 1) (by omega) ⟨j, ?_, hk, hn⟩
      rcases Nat.lt_or_eq_of_le hj with h1 | h1
      · exact h1
      · subst h1
        exact absurd hn h
theorem toList_eq {a b : ByteArray} (h : a.toList = b.toList) : a = b := by
  rw [ByteArray.toList_eq, ByteArray.toList_eq] at h
  exact bytes_eq h
theorem code_ne {l : List S36} {f : S26} (h : f ∈ faultsS l) : f.f0 ≠ 0 := by
  unfold faultsS at h
  split at h
  · cases h
  · unfold faultsFS wrongS at h
    simp only [List.mem_append, List.mem_map] at h
    rcases h with ((⟨n, _, rfl⟩ | ⟨n, _, rfl⟩) | ⟨n, _, rfl⟩) | ⟨n, _, rfl⟩ <;> exact fun h => by cases h
theorem allP_ok {l : List S36} (h : (allP l).2.1 = 0) : checkR l = 0 ∧ faultsS l = [] ∧ (allP l).1 = entriesF (namesAt l l.length) := by
  by_cases hc : checkR l = 0
  · cases hf : faultsS l with
    | nil => exact ⟨hc, rfl, by unfold allP; rw [if_neg (by simp [hc]), hf]⟩
    | cons f fs =>
      have hn := code_ne (l := l) (f := f) (by rw [hf]; exact List.mem_cons_self ..)
      unfold allP at h
      rw [if_neg (by simp [hc]), hf] at h
      exact absurd h hn
  · unfold allP at h
    rw [if_pos hc] at h
    exact absurd h hc
theorem allP_bad {l : List S36} (h : (allP l).2.1 ≠ 0) : (allP l).1 = [] := by
  by_cases hc : checkR l = 0
  · cases hf : faultsS l with
    | nil =>
      unfold allP at h
      rw [if_neg (by simp [hc]), hf] at h
      exact absurd rfl h
    | cons f fs => unfold allP; rw [if_neg (by simp [hc]), hf]
  · unfold allP
    rw [if_pos hc]
theorem more_law (l : List S36) (m : S36) (h0 : (allP l).2.1 = 0) (h1 : (allP (l ++ [m])).2.1 = 0) (i : Nat) (hi : i < (allP l).1.length) :
    ∃ k r, resolve_Find.f k (allP (l ++ [m])).1 (rd_T42 (allP l).1 (i : Int)).f0 = some (r.f0, r.f1, r.f2, r.f3, r.f4, true) ∧ ((rd_T42 (allP l).1 (i : Int)).f3 = 1 → r = rd_T42 (allP l).1 (i : Int)) := by
  obtain ⟨c0, f0, e0⟩ := allP_ok h0
  obtain ⟨c1, f1, e1⟩ := allP_ok h1
  rw [e0] at hi ⊢
  rw [e1]
  have hil : i < (rise (namesAt l l.length)).length := by unfold entriesF at hi; rw [List.length_map] at hi; exact hi
  obtain ⟨n, hn⟩ : ∃ n, n = (rise (namesAt l l.length))[i] := ⟨_, rfl⟩
  have hx : rd_T42 (entriesF (namesAt l l.length)) (i : Int) = entryF n (lk zM (namesAt l l.length) n) := by
    subst hn
    simp [rd_T42, entriesF, List.getD, hil]
  have hmem : n ∈ rise (namesAt l l.length) := by rw [hn]; exact List.getElem_mem _
  have hmem' := rise_more l m hmem
  have hname := entry_name c0 f0 n hmem
  rw [hx, hname]
  have hlen : (entriesF (namesAt (l ++ [m]) (l ++ [m]).length)).length = (rise (namesAt (l ++ [m]) (l ++ [m]).length)).length := List.length_map _
  have hsm : (rise (namesAt (l ++ [m]) (l ++ [m]).length)).length ≤ 32000 := by rw [rise_len]; exact (names_32 _ (fits_of c1).1).1
  have hF : ∀ x ∈ entriesF (namesAt (l ++ [m]) (l ++ [m]).length), x.f0.toList = n.toList → x = entryF n (lk zM (namesAt (l ++ [m]) (l ++ [m]).length) n) := by
    intro x hx1 hx2
    obtain ⟨n', hn', rfl⟩ := List.mem_map.1 hx1
    have h3 := entry_name c1 f1 n' hn'
    rw [h3] at hx2
    rw [toList_eq hx2]
  have hin : entryF n (lk zM (namesAt (l ++ [m]) (l ++ [m]).length) n) ∈ entriesF (namesAt (l ++ [m]) (l ++ [m]).length) := List.mem_map.2 ⟨n, hmem', rfl⟩
  obtain ⟨j, hj, hje⟩ := List.getElem_of_mem hin
  have hf := find_in _ n (by omega) _ hF 0 (entriesF (namesAt (l ++ [m]) (l ++ [m]).length)).length 0 (by omega) ⟨j, Nat.zero_le _, hj, by
    rw [rd_get _ j hj, hje, entry_name c1 f1 n hmem']⟩
  refine ⟨_, _, hf, fun hb => entry_more m c0 f0 c1 f1 n hmem hb⟩
end Go.Proofs.Ytibkcnlcmempgaa.Res
end
section
namespace Go.Proofs.Ytibkcnlcmempgaa.G
open Go.RowKit Go.Proofs.YtibkcnlcmempgaaW.PrintWords Go.Proofs.YtibkcnlcmempgaaW.PrintLast Go.Proofs.YtibkcnlcmempgaaW.PrintMore
attribute [local go_sem] max2_int min2_int max_two min_two max_three min_three max_four min_four   -- for this text's walks alone
set_option linter.unusedVariables false
set_option linter.unusedSimpArgs false
def gangwaylaw18_num.f (a0 : Int) : Option (Int) := some a0
set_option maxHeartbeats 8000000 in
set_option maxRecDepth 100000 in
theorem gangwaylaw18_num.calls (a0 : Int) (r : Int) (w : World) (h : gangwaylaw18_num.f a0 = some r) :
  Calls Try.prog 8 #[.int .i64 a0] w fun e w' => e = .returned (.int .i64 r) ∧ Drawn0 w w' := by
 have H : (some a0) = some r := h
 clear h
 obtain rfl := Option.some.inj H
 go_enter Try.func8, Try.ntmps8
 go_wp2
 go_ret
 exact ⟨by first | rfl | (simp; done) | (simp [*]; done), by repeat (first | exact Drawn0.refl _ | apply Drawn0.step)⟩
end Go.Proofs.Ytibkcnlcmempgaa.G
end
section
namespace Go.Proofs.Ytibkcnlcmempgaa.Res
set_option linter.unusedVariables false
set_option linter.unusedSimpArgs false
open Go.RowKit Go.Proofs.Ytibkcnlcmempgaa.G Go.Proofs.YtibkcnlcmempgaaW.PrintWords Go.Proofs.YtibkcnlcmempgaaW.PrintLast Go.Proofs.YtibkcnlcmempgaaW.PrintMore Go.Proofs.Ytibkcnlcmempgaa.Raw
theorem C_blk {α : Type} (d : Kd α) {w : World} {g e : Nat} {cs : Array Value} {xs : List α} (h : w.heap[g]? = some (.cells cs e (0, 0))) (hr : Reps (d.K w) d.sz xs cs.toList) (hm : xs.length ≤ 9223372036854775807) : d.C w (some ⟨g, 0, none⟩) xs.length xs := by
  refine ⟨rfl, hm, fun _ => ⟨_, rfl, fun j p hj => ⟨_, ?_, hr.2 j p hj, fun i u hu => ?_⟩⟩⟩
  · exact d.K_len (hr.2 j p hj)
  · have hc := blk_cell h (j * d.sz + i)
    have hl := d.K_len (hr.2 j p hj)
    have hi : i < d.sz := by rw [← hl]; exact (List.getElem?_eq_some_iff.1 hu).1
    have e1 : (⟨g, 0, none⟩ : Addr).add (j * d.sz + i) = ⟨g, j * d.sz + i, none⟩ := by
      unfold Addr.add
      split
      · rename_i h0; rw [h0]
      · simp only [Nat.zero_add]
    rw [e1, hc, ← hu]
    rw [List.getElem?_take_of_lt hi, List.getElem?_drop, Array.getElem?_toList]
def textS : S72 := ⟨⟨#[46, 116, 101, 120, 116]⟩, 1, 6, 16, [195], 1, []⟩
def file0 : S36 := ⟨[textS], [⟨⟨#[102]⟩, ⟨#[]⟩, 0, 0, 1, 0⟩]⟩
def file1 : S36 := ⟨[textS], [⟨⟨#[102]⟩, ⟨#[46, 116, 101, 120, 116]⟩, 0, 0, 1, 2⟩]⟩
theorem blk_at {w : World} (o : Obj) {n : Nat} (h : w.heap.size = n) : (w.alloc o).heap[n]? = some o := h ▸ blk_new w o
theorem small_text : ∀ f ∈ [file0, file1], f.f0.length * 96 ≤ 140737488351232 := by
  intro f hf
  simp only [List.mem_cons, List.not_mem_nil, or_false] at hf
  rcases hf with rfl | rfl <;> decide
set_option maxRecDepth 100000 in
theorem two_calls (w : World) : Calls Try.prog 32 #[] w fun e w' => ∃ g, e = .returned (.slice (some ⟨g, 0, none⟩) 2 2) ∧ Kd.C k36 w' (some ⟨g, 0, none⟩) 2 [file0, file1] ∧ Below w.heap.size w w' := by
  go_enter Try.func32, Try.ntmps32
  go_wp2
  go_ret
  refine ⟨_, rfl, ?_, below_alloc (below_alloc (below_alloc (below_alloc (below_alloc (below_alloc (below_alloc (Below.refl _ _) _) _) _) _) _) _) _⟩
  have h0 := fun (a b c d e f : Obj) => blk_alloc (blk_alloc (blk_alloc (blk_alloc (blk_alloc (blk_alloc (blk_new w (.cells #[.int .u8 195] 5)) a) b) c) d) e) f
  refine C_blk k36 (xs := [file0, file1]) (blk_at _ (by simp)) (((Reps.none _ _).snoc (k36_mk _ file0 (c0 := 1) (by decide) ?a0 (c1 := 1) (by decide) ?a1) rfl).snoc (k36_mk _ file1 (c0 := 1) (by decide) ?a2 (c1 := 1) (by decide) ?a3) rfl) (by decide)
  case a0 => exact C_blk k72 (xs := [textS]) (blk_alloc (blk_alloc (blk_alloc (blk_alloc (blk_at _ (by simp)) _) _) _) _) ((Reps.none _ _).snoc (k72_mk _ textS (c4 := 1) (by decide) (C_blk (Kd.int .u8) (xs := [195]) (h0 _ _ _ _ _ _) ((Reps.none _ _).snoc rfl rfl) (by decide)) (c6 := 0) (by decide) (Kd.C_nil _ _)) rfl) (by decide)
  case a1 => exact C_blk k38 (xs := file0.f1) (blk_alloc (blk_alloc (blk_alloc (blk_at _ (by simp)) _) _) _) ((Reps.none _ _).snoc (k38_mk _ ⟨⟨#[102]⟩, ⟨#[]⟩, 0, 0, 1, 0⟩) rfl) (by decide)
  case a2 => exact C_blk k72 (xs := [textS]) (blk_alloc (blk_alloc (blk_at _ (by simp)) _) _) ((Reps.none _ _).snoc (k72_mk _ textS (c4 := 1) (by decide) (C_blk (Kd.int .u8) (xs := [195]) (h0 _ _ _ _ _ _) ((Reps.none _ _).snoc rfl rfl) (by decide)) (c6 := 0) (by decide) (Kd.C_nil _ _)) rfl) (by decide)
  case a3 => exact C_blk k38 (xs := file1.f1) (blk_alloc (blk_at _ (by simp)) _) ((Reps.none _ _).snoc (k38_mk _ ⟨⟨#[102]⟩, ⟨#[46, 116, 101, 120, 116]⟩, 0, 0, 1, 2⟩) rfl) (by decide)
theorem all_two : allR [file0, file1] = ([.int .i64 0, .string ⟨#[]⟩], [⟨⟨#[102]⟩, 1, 0, 1, 2⟩]) := by
  kernel_rfl
theorem all_one : allR [file0] = ([.int .i64 181, .string ⟨#[102]⟩], []) := by
  kernel_rfl
set_option maxHeartbeats 4000000 in
set_option maxRecDepth 100000 in
theorem live_calls (w : World) : Calls Try.prog 10 #[] w fun e w' => e = .returned (.bool true) ∧ Below w.heap.size w w' := by
  go_enter Try.func10, Try.ntmps10
  go_wp2_with fail
  refine (two_calls w).mono ?_
  rintro e w1 ⟨g, rfl, hC1, hB1⟩
  have HC1 := Aside0.mk hC1
  have HB1 := Aside0.mk hB1
  clear hC1 hB1
  go_wp2_with fail
  refine (all_calls (some ⟨g, 0, none⟩) 2 [file0, file1] w1 HC1.out (by decide) small_text).mono ?_
  rintro e w2 ⟨v, rfl, hR2, hB2⟩
  have HB2 := Aside0.mk (below_then HB1.out HB1.out.size hB2)
  have HR2 := Aside0.mk hR2
  rw [all_two] at HR2 ⊢
  clear hR2 hB2 HC1
  go_wp2_with fail
  have hG3 := blk_new w2 (.cells #[.int .i64 0, .string ⟨#[]⟩] 26)
  have hB3 := below_alloc (Below.refl w2.heap.size w2) (.cells #[.int .i64 0, .string ⟨#[]⟩] 26)
  obtain ⟨w3, hw3⟩ : ∃ w3, w3 = w2.alloc (.cells #[.int .i64 0, .string ⟨#[]⟩] 26) := ⟨_, rfl⟩
  rw [← hw3] at hG3 hB3 ⊢
  clear hw3
  refine (two_calls w3).mono ?_
  rintro e w4 ⟨g4, rfl, hC4, hB4⟩
  have HC4 := Aside0.mk hC4
  have hB34 := below_then hB3 hB3.size hB4
  have hG4 := blk_below hG3 hB4
  clear hC4 hB4 hB3 hG3
  go_wp2_with fail
  refine (all_calls (some ⟨g4, 0, none⟩) 2 [file0] w4 (Kd.C_take (m := 1) HC4.out (by decide)) (by decide) (fun f hf => small_text f (by simp only [List.mem_singleton] at hf; subst hf; exact List.mem_cons_self ..))).mono ?_
  rintro e w5 ⟨v5, rfl, hR5, hB5⟩
  rw [all_one] at hR5 ⊢
  have hB35 := below_then hB34 hB34.size hB5
  have HG5 := Aside0.mk (blk_below hG4 hB5)
  have HR5 := Aside0.mk (Kd.R_below HR2.out hB35)
  have HB5 := Aside0.mk (below_then HB2.out HB2.out.size hB35)
  clear hR5 hB5 hB34 hG4 hB35 HC4 HB1 HR2 HB2
  obtain ⟨gv, cv, rfl, hgv, hgl⟩ := Kd.R_form HR5.out (by decide)
  have hc := (Kd.R_reads' HR5.out).2.2
  obtain ⟨ad, hadd, q0, q1, q2, q3, q4⟩ := at_T42 hc (0 : Int) (by decide) (by decide)
  obtain rfl := Option.some.inj hadd
  have p1 : w5.cell? ⟨gv, 1, none⟩ = some (.int .i64 1) := q1
  have f0 : w5.cell? ⟨w2.heap.size, 0, none⟩ = some (.int .i64 0) := (blk_cell HG5.out 0).trans rfl
  have hgl1 := hgl.1
  have hws := blk_lt HG5.out
  have hlen : [(⟨⟨#[102]⟩, 1, 0, 1, 2⟩ : S42)].length = 1 := rfl
  rw [hlen]
  clear hadd q0 q1 q2 q3 q4 hgl hc HR5 hlen
  go_wp2_with fail
  have hG6 := blk_new w5 (.cells #[.int .i64 181, .string ⟨#[102]⟩] 26)
  have hB6 := below_alloc (Below.refl w5.heap.size w5) (.cells #[.int .i64 181, .string ⟨#[102]⟩] 26)
  obtain ⟨w6, hw6⟩ : ∃ w6, w6 = w5.alloc (.cells #[.int .i64 181, .string ⟨#[102]⟩] 26) := ⟨_, rfl⟩
  rw [← hw6] at hG6 hB6 ⊢
  have p2 := pw_cell_below hB6 p1
  have HB6 := Aside0.mk (below_then HB5.out HB5.out.size hB6)
  have r0 : w6.cell? ⟨w5.heap.size, 0, none⟩ = some (.int .i64 181) := (blk_cell hG6 0).trans rfl
  have r1 : w6.cell? ⟨w5.heap.size, 1, none⟩ = some (.string ⟨#[102]⟩) := (blk_cell hG6 1).trans rfl
  clear hw6 hG6 hB6 p1 f0
  refine (gangwaylaw18_num.calls 0 0 w6 rfl).mono ?_
  rintro e w7 ⟨rfl, q, rfl⟩
  go_wp2_with fail
  refine (gangwaylaw18_num.calls 181 181 _ rfl).mono ?_
  rintro e w7 ⟨rfl, q2, rfl⟩
  go_wp2
  go_ret
  exact ⟨rfl, pw_below_drewN HB6.out _⟩
end Go.Proofs.Ytibkcnlcmempgaa.Res
end
section
namespace Go.Proofs.Ytibkcnlcmempgaa.Res
set_option linter.unusedVariables false
set_option linter.unusedSimpArgs false
open Go.RowKit Go.Proofs.Ytibkcnlcmempgaa.G Go.Proofs.YtibkcnlcmempgaaW.PrintWords Go.Proofs.YtibkcnlcmempgaaW.PrintLast Go.Proofs.YtibkcnlcmempgaaW.PrintMore Go.Proofs.Ytibkcnlcmempgaa.Raw
def ls4 (b0 b2 b4 b5 b10 : Bool) : Array Bool := #[b0, true, b2, true, b4, b5, false, false, false, false, b10, false, false]
theorem mem4 : ∀ b0 b2 b4 b5 b10 : Bool, ((Region.ready (.any) (opsOf Try.f5 4) (ls4 b0 b2 b4 b5 b10)).all fun i => (i == 0 && !b0) || (i == 2 && !b2 && b0) || (i == 4 && !b4) || (i == 5 && !b5 && b2 && b4) || (i == 6 && b5) || (i == 10 && !b10)) = true ∧ (Region.ready (.any) (opsOf Try.f5 4) (ls4 b0 b2 b4 b5 b10)).isEmpty = false := by
  intro b0 b2 b4 b5 b10
  cases b0 <;> cases b2 <;> cases b4 <;> cases b5 <;> cases b10 <;> exact ⟨by kernel_rfl, by kernel_rfl⟩
/-- the orders of what is left, by what holds behind each -/
theorem any_ {P : Program} {md : Region.Mode} {ops : Array Oper} {Q : Exit → Act → World → Prop} {S : World → Prop} {ds : List Nat} (I : Nat → Array Bool → Act → World → Prop) (h0 : ∀ l a w, ¬ I 0 l a w)
    (h : ∀ n, (∀ l a w, I n l a w → wpAnyLast P md ops Q S ds n l a w) → ∀ l a w, I (n + 1) l a w → wpAnyLast P md ops Q S ds (n + 1) l a w) : ∀ n l a w, I n l a w → wpAnyLast P md ops Q S ds n l a w := by
  intro n
  induction n with
  | zero => exact fun l a w hi => absurd hi (h0 l a w)
  | succ n ih => exact h n ih
theorem with_ops {P : Program} {md : Region.Mode} {ops : Array Oper} {Q : Exit → Act → World → Prop} {S : World → Prop} {ds : List Nat} {n : Nat} {l : Array Bool} {a : Act} {w : World} (o : Array Oper) (e : o = ops) (h : o = ops → wpAnyLast P md ops Q S ds n l a w) : wpAnyLast P md ops Q S ds n l a w := h e
structure Inv4 (W : World) (l0 : List S36) (s1 s2 : Value) (m : S36) (b0 b2 b4 b5 b10 : Bool) (v28 v30 v32 v33 v8 : Value) (w' : World) : Prop where
  hB : Below W.heap.size W w'
  c2 : b2 = true → b0 = true
  c5 : b5 = true → b2 = true ∧ b4 = true
  h0 : b0 = true → b2 = false → Kd.N k36 36 w' W.heap.size (fun _ => True) v28 ([] : List S36)
  h2 : b2 = true → b5 = false → Kd.N k36 36 w' W.heap.size (fun _ => True) v30 l0
  h4 : b4 = true → b5 = false → ∃ g, v32 = .slice (some ⟨g, 0, none⟩) 1 1 ∧ w'.heap[g]? = some (.cells #[s1, s2] 36 (0, 0)) ∧ W.heap.size ≤ g ∧ (b0 = true → b2 = false → some g ≠ v28.ownBlock) ∧ (b2 = true → some g ≠ v30.ownBlock)
  h5 : b5 = true → Kd.N k36 36 w' W.heap.size (fun _ => True) v33 (l0 ++ [m])
  h10 : b10 = true → ∃ g, v8 = .pointer (some ⟨g, 0, none⟩) ∧ w'.heap[g]? = some (.cells #[.int .i64 0, .string ⟨#[]⟩] 26 (0, 0)) ∧ W.heap.size ≤ g
section
variable {W : World} {l0 : List S36} {s1 s2 : Value} {m : S36} {b0 b2 b4 b5 b10 : Bool} {v28 v30 v32 v33 v8 : Value} {w' w1 : World}
theorem own_new {v : Value} {g : Nat} {o : Obj} (ho : ∃ k, v.ownBlock = some k ∧ w'.heap.size ≤ k) (hg : w'.heap[g]? = some o) : some g ≠ v.ownBlock := by
  obtain ⟨k, h1, h2⟩ := ho
  have := blk_lt hg
  rw [h1]
  intro e
  injection e with e
  omega
theorem Inv4.step0 (h : Inv4 W l0 s1 s2 m false b2 b4 b5 b10 v28 v30 v32 v33 v8 w') {v : Value} (hN : Kd.N k36 36 w1 W.heap.size (fun _ => True) v ([] : List S36)) (hB : Below W.heap.size W w1) (hg : w'.grownBy w1 none) (ho : ∃ k, v.ownBlock = some k ∧ w'.heap.size ≤ k) :
    Inv4 W l0 s1 s2 m true b2 b4 b5 b10 v v30 v32 v33 v8 w1 := by
  have e2 : b2 = false := by cases hb : b2 with | false => rfl | true => exact absurd (h.c2 hb) (by simp)
  have e5 : b5 = false := by cases hb : b5 with | false => rfl | true => exact absurd (h.c5 hb).1 (by simp [e2])
  subst e2 e5
  refine ⟨hB, fun _ => rfl, fun q => absurd q (by simp), fun _ _ => hN, fun q => absurd q (by simp), fun q _ => ?_, fun q => absurd q (by simp), fun q => ?_⟩
  · obtain ⟨g, r1, r2, r3, _, _⟩ := h.h4 q rfl
    exact ⟨g, r1, (hg.block g (blk_lt r2) (by simp)).trans r2, r3, fun _ _ => own_new ho r2, fun e => absurd e (by simp)⟩
  · obtain ⟨g, r1, r2, r3⟩ := h.h10 q
    exact ⟨g, r1, (hg.block g (blk_lt r2) (by simp)).trans r2, r3⟩
theorem Inv4.step2 (h : Inv4 W l0 s1 s2 m true false b4 b5 b10 v28 v30 v32 v33 v8 w') {v : Value} (hN : Kd.N k36 36 w1 W.heap.size (fun _ => True) v l0) (hB : Below W.heap.size W w1) (hg : w'.grownBy w1 v28.ownBlock) (ho : v.ownBlock = v28.ownBlock ∨ ∃ k, v.ownBlock = some k ∧ w'.heap.size ≤ k) :
    Inv4 W l0 s1 s2 m true true b4 b5 b10 v28 v v32 v33 v8 w1 := by
  have e5 : b5 = false := by cases hb : b5 with | false => rfl | true => exact absurd (h.c5 hb).1 (by simp)
  subst e5
  refine ⟨hB, fun _ => rfl, fun q => absurd q (by simp), fun _ q => absurd q (by simp), fun _ _ => hN, fun q _ => ?_, fun q => absurd q (by simp), fun q => ?_⟩
  · obtain ⟨g, r1, r2, r3, r4, _⟩ := h.h4 q rfl
    refine ⟨g, r1, (hg.block g (blk_lt r2) (r4 rfl rfl)).trans r2, r3, fun _ e => absurd e (by simp), fun _ => ?_⟩
    rcases ho with ho | ho
    · rw [ho]
      exact r4 rfl rfl
    · exact own_new ho r2
  · obtain ⟨g, r1, r2, r3⟩ := h.h10 q
    exact ⟨g, r1, (hg.block g (blk_lt r2) (Kd.N_ne (h.h0 rfl rfl) r2 (by decide))).trans r2, r3⟩
theorem Inv4.step4 (h : Inv4 W l0 s1 s2 m b0 b2 false b5 b10 v28 v30 v32 v33 v8 w') (hb : W.heap.size ≤ w'.heap.size) :
    Inv4 W l0 s1 s2 m b0 b2 true b5 b10 v28 v30 (.slice (some ⟨w'.heap.size, 0, none⟩) 1 1) v33 v8 (w'.alloc (.cells #[s1, s2] 36)) := by
  have e5 : b5 = false := by cases hb : b5 with | false => rfl | true => exact absurd (h.c5 hb).2 (by simp)
  subst e5
  refine ⟨below_alloc h.hB _, h.c2, fun q => absurd q (by simp), fun p q => Kd.N_alloc (h.h0 p q) _, fun p q => Kd.N_alloc (h.h2 p q) _, fun _ _ => ?_, fun q => absurd q (by simp), fun q => ?_⟩
  · refine ⟨_, rfl, blk_new _ _, hb, fun p q => ?_, fun p => ?_⟩
    · intro e
      have := Kd.N_lt (h.h0 p q) _ e.symm
      omega
    · intro e
      have := Kd.N_lt (h.h2 p rfl) _ e.symm
      omega
  · obtain ⟨g, r1, r2, r3⟩ := h.h10 q
    exact ⟨g, r1, blk_alloc r2 _, r3⟩
theorem Inv4.step5 (h : Inv4 W l0 s1 s2 m b0 true true false b10 v28 v30 v32 v33 v8 w') {v : Value} (hN : Kd.N k36 36 w1 W.heap.size (fun _ => True) v (l0 ++ [m])) (hB : Below W.heap.size W w1) (hg : w'.grownBy w1 v30.ownBlock) :
    Inv4 W l0 s1 s2 m b0 true true true b10 v28 v30 v32 v v8 w1 := by
  refine ⟨hB, h.c2, fun _ => ⟨rfl, rfl⟩, fun _ q => absurd q (by simp), fun _ q => absurd q (by simp), fun _ q => absurd q (by simp), fun _ => hN, fun q => ?_⟩
  obtain ⟨g, r1, r2, r3⟩ := h.h10 q
  exact ⟨g, r1, (hg.block g (blk_lt r2) (Kd.N_ne (h.h2 rfl rfl) r2 (by decide))).trans r2, r3⟩
theorem Inv4.step10 (h : Inv4 W l0 s1 s2 m b0 b2 b4 b5 false v28 v30 v32 v33 v8 w') (hb : W.heap.size ≤ w'.heap.size) :
    Inv4 W l0 s1 s2 m b0 b2 b4 b5 true v28 v30 v32 v33 (.pointer (some ⟨w'.heap.size, 0, none⟩)) (w'.alloc (.cells #[.int .i64 0, .string ⟨#[]⟩] 26)) := by
  refine ⟨below_alloc h.hB _, h.c2, h.c5, fun p q => Kd.N_alloc (h.h0 p q) _, fun p q => Kd.N_alloc (h.h2 p q) _, fun p q => ?_, fun p => Kd.N_alloc (h.h5 p) _, fun _ => ⟨_, rfl, blk_new _ _, hb⟩⟩
  obtain ⟨g, r1, r2, r3, r4, r5⟩ := h.h4 p q
  exact ⟨g, r1, blk_alloc r2 _, r3, r4, r5⟩
/-- the one element behind -/
theorem F_one {A1 : Option Addr} {c1 : Nat} {l1 : List S72} {A2 : Option Addr} {c2 : Nat} {l2 : List S38} {g : Nat} (hg : w'.heap[g]? = some (.cells #[.slice A1 l1.length c1, .slice A2 l2.length c2] 36 (0, 0))) (hB : Below W.heap.size W w')
    (hc1 : l1.length ≤ c1) (hr1 : Kd.C k72 W A1 l1.length l1) (hc2 : l2.length ≤ c2) (hr2 : Kd.C k38 W A2 l2.length l2) : Kd.F k36 w' (fun k => k < W.heap.size ∨ k = g) (some ⟨g, 0, none⟩) 1 [(⟨l1, l2⟩ : S36)] := by
  intro W' hW
  have hs := hB.size
  have hk : ∀ k, k < W.heap.size → W'.heap[k]? = W.heap[k]? := fun k hk => (hW k (.inl (by omega)) (by omega)).trans (hB.block k (by omega))
  have h1 : W'.heap[g]? = some (.cells #[.slice A1 l1.length c1, .slice A2 l2.length c2] 36 (0, 0)) := (hW g (.inr rfl) (blk_lt hg)).trans hg
  exact C_blk k36 (xs := [⟨l1, l2⟩]) h1 ((Reps.none _ _).snoc (k36_mk _ ⟨l1, l2⟩ (c0 := c1) hc1 (k72_heap.C hk hr1) (c1 := c2) hc2 (k38_heap.C hk hr2)) rfl) (by simp)
end
end Go.Proofs.Ytibkcnlcmempgaa.Res
end
section
namespace Go.Proofs.Ytibkcnlcmempgaa.Res
set_option linter.unusedVariables false
set_option linter.unusedSimpArgs false
open Go.RowKit Go.Proofs.Ytibkcnlcmempgaa.G Go.Proofs.YtibkcnlcmempgaaW.PrintWords Go.Proofs.YtibkcnlcmempgaaW.PrintLast Go.Proofs.YtibkcnlcmempgaaW.PrintMore Go.Proofs.Ytibkcnlcmempgaa.Raw
set_option maxHeartbeats 4000000 in
set_option maxRecDepth 100000 in
theorem more_calls (A0 : Option Addr) (c0 : Nat) (l0 : List S36) (A1 : Option Addr) (c1 : Nat) (l1 : List S72) (A2 : Option Addr) (c2 : Nat) (l2 : List S38) (w : World) (hr0 : Kd.C k36 w A0 l0.length l0) (hc0 : l0.length ≤ c0)
    (hr1 : Kd.C k72 w A1 l1.length l1) (hc1 : l1.length ≤ c1) (hr2 : Kd.C k38 w A2 l2.length l2) (hc2 : l2.length ≤ c2) (hl : l0.length * 48 ≤ 140737488351232) (hs : smallB (l0 ++ [⟨l1, l2⟩]) = true) :
    Calls Try.prog 5 #[.slice A0 l0.length c0, .agg #[.slice A1 l1.length c1, .slice A2 l2.length c2]] w fun e w' => e = .returned (.bool true) ∧ Below w.heap.size w w' := by
  have HR0 := Aside0.mk hr0
  have HR1 := Aside0.mk hr1
  have HR2 := Aside0.mk hr2
  have HS := Aside0.mk (smallB_of hs)
  clear hr0 hr1 hr2 hs
  go_enter Try.func5, Try.ntmps5
  go_wp2_with fail
  have hbm := blk_new w (.cells #[.slice A1 l1.length c1, .slice A2 l2.length c2] 36)
  have hB0 := below_alloc (Below.refl w.heap.size w) (.cells #[.slice A1 l1.length c1, .slice A2 l2.length c2] 36)
  obtain ⟨w0, hw0⟩ : ∃ w0, w0 = w.alloc (.cells #[.slice A1 l1.length c1, .slice A2 l2.length c2] 36) := ⟨_, rfl⟩
  rw [← hw0] at hbm hB0 ⊢
  have hz0 : w0.heap.size = w.heap.size + 1 := by rw [hw0]; simp
  clear hw0
  refine (all_calls A0 c0 l0 w0 (Kd.C_below HR0.out hB0) hc0 (fun f hf => HS.out f (List.mem_append_left _ hf))).mono ?_
  rintro e w1 ⟨v, rfl, hR1, hB1⟩
  have HBM := Aside0.mk (blk_below hbm hB1)
  have HB1 := Aside0.mk (below_then hB0 hB0.size hB1)
  have hs1 := hB1.size
  rw [allP_enc] at hR1 ⊢
  obtain ⟨Av, cv, rfl⟩ := Kd.R_slice hR1
  have HR := Aside0.mk hR1
  clear hR1 hB1 hB0 hbm
  generalize hE : (allP l0).2.1 = E
  generalize hT : (allP l0).2.2 = T
  generalize hX : (allP l0).1 = X at HR ⊢
  go_wp2_with fail
  have hG2 := blk_new w1 (.cells #[.int .i64 E, .string T] 26)
  have hB2 := below_alloc (Below.refl w1.heap.size w1) (.cells #[.int .i64 E, .string T] 26)
  obtain ⟨w2, hw2⟩ : ∃ w2, w2 = w1.alloc (.cells #[.int .i64 E, .string T] 26) := ⟨_, rfl⟩
  rw [← hw2] at hG2 hB2 ⊢
  have HB2 := Aside0.mk (below_then HB1.out HB1.out.size hB2)
  replace HR := Aside0.mk (Kd.R_below HR.out hB2)
  replace HBM := Aside0.mk (blk_below HBM.out hB2)
  have hs2 := hB2.size
  clear hw2 HB1 hB2
  refine (gangwaylaw18_num.calls E E w2 rfl).mono ?_
  rintro e w3 ⟨rfl, q, rfl⟩
  have HB3 := Aside0.mk (pw_below_drewN HB2.out q)
  clear HB2
  by_cases h0 : E = 0
  · have hx0 : (E != 0) = false := by simp [h0]
    go_upto_region 4 with fail
    rename_i QQ KK hKK
    obtain ⟨W, hW⟩ : ∃ W, W = (w2.drewN q).drew := ⟨_, rfl⟩
    have hBW : Below w2.heap.size w2 W := by rw [hW]; exact below_drew (pw_below_drewN (Below.refl _ _) q)
    have hBw : Below w.heap.size w W := by rw [hW]; exact below_drew HB3.out
    have HBw := Aside0.mk hBw
    have HC0 := Aside0.mk (Kd.C_below HR0.out hBw)
    have HC1 := Aside0.mk (Kd.C_below HR1.out hBw)
    have HC2 := Aside0.mk (Kd.C_below HR2.out hBw)
    have HBMW := Aside0.mk (blk_below HBM.out hBW)
    have HRW := Aside0.mk (Kd.R_below HR.out hBW)
    have hsW := hBW.size
    have hgm := blk_lt HBMW.out
    have HGF := Aside0.mk (blk_below hG2 hBW)
    clear HB3 hBw hBW HR0 HR1 HR2 HR HBM hG2
    obtain ⟨E2, hE2⟩ : ∃ E2, E2 = (allP (l0 ++ [(⟨l1, l2⟩ : S36)])).2.1 := ⟨_, rfl⟩
    obtain ⟨T2, hT2⟩ : ∃ T2, T2 = (allP (l0 ++ [(⟨l1, l2⟩ : S36)])).2.2 := ⟨_, rfl⟩
    obtain ⟨Y, hY⟩ : ∃ Y, Y = (allP (l0 ++ [(⟨l1, l2⟩ : S36)])).1 := ⟨_, rfl⟩
    have HE2 := Aside0.mk (And.intro hE2 (And.intro hT2 hY))
    clear hE2 hT2 hY
    have hfin : ∀ (v28 v30 v32 v33 ve : Value) (g : Nat) (w' : World), Below W.heap.size W w' → Kd.R k42 42 w' W.heap.size (fun _ => True) ve Y → w'.heap[g]? = some (.cells #[.int .i64 E2, .string T2] 26 (0, 0)) → W.heap.size ≤ g →
        Exit.then KK QQ .normal { tmps := #[.slice A0 l0.length c0, .agg #[.slice A1 l1.length c1, .slice A2 l2.length c2], undef, .pointer (some ⟨w.heap.size, 0, none⟩), .bool false, .slice Av X.length cv, .pointer (some ⟨w1.heap.size, 0, none⟩), ve, .pointer (some ⟨g, 0, none⟩), undef, undef, undef, .tuple #[.slice Av X.length cv, .agg #[.int .i64 0, .string T]], .slice A0 l0.length c0, .tuple #[.slice Av X.length cv, .agg #[.int .i64 0, .string T]], .slice Av X.length cv, .agg #[.int .i64 0, .string T], .pointer (some ⟨w1.heap.size, 0, none⟩), .int .i64 0, .int .i64 0, .bool false, undef, undef, undef, undef, undef, undef, .tuple #[ve, .agg #[.int .i64 E2, .string T2]], v28, .slice A0 l0.length c0, v30, .agg #[.slice A1 l1.length c1, .slice A2 l2.length c2], v32, v33, .tuple #[ve, .agg #[.int .i64 E2, .string T2]], ve, .agg #[.int .i64 E2, .string T2], undef, undef, undef, undef, undef, undef, undef, undef, undef, undef, undef, undef, undef, undef, undef, undef, undef, undef, undef, undef, undef, undef, undef, undef, undef, undef, undef, undef, undef, undef, undef, undef, undef, undef, undef, undef, undef, undef, undef, undef], defers := [] } w' := by
      intro v28 v30 v32 v33 ve g w' hB hR hG hgW
      have HB := Aside0.mk hB
      have HY := Aside0.mk hR
      have HL := Aside0.mk (more_law l0 ⟨l1, l2⟩)
      rw [hX, hE, ← HE2.out.1, ← HE2.out.2.2] at HL
      have HX := Aside0.mk (Kd.R_below HRW.out hB)
      clear HRW HGF HBMW HC0 HC1 HC2 HS HE2 hB hR hX hE hT hgm hs2 hsW hs1
      refine hKK _ _ ?_
      have d0 : w'.cell? ⟨g, 0, none⟩ = some (.int .i64 E2) := (blk_cell hG 0).trans rfl
      clear hKK hG
      go_wp2_with fail
      refine (gangwaylaw18_num.calls E2 E2 w' rfl).mono ?_
      rintro e w5 ⟨rfl, q2, rfl⟩
      have HB5 := Aside0.mk (pw_below_drewN HB.out q2)
      have HX5 := Aside0.mk (Kd.R_drewN HX.out q2)
      have HY5 := Aside0.mk (Kd.R_drewN HY.out q2)
      clear d0 HB HX HY
      obtain ⟨w5, hw5⟩ : ∃ w5, w5 = w'.drewN q2 := ⟨_, rfl⟩
      rw [← hw5] at HB5 HX5 HY5 ⊢
      clear hw5
      by_cases h1 : E2 = 0
      · have hx1 : (E2 != 0) = false := by simp [h1]
        have HLW := Aside0.mk (HL.out h0 h1)
        have HA := Aside0.mk (And.intro h0 h1)
        clear HL h0 h1 hx0
        obtain ⟨Ay, cy, rfl⟩ := Kd.R_slice HY5.out
        have hXb : X.length ≤ 9223372036854775807 := (Kd.R_reads' HX5.out).2.2.2.1
        go_wp2
        go_loopg [9] X.length (fun kq v9 wr => ∃ k : Nat, k + kq = X.length ∧ v9 = .int .i64 (k : Int) ∧ Aside0 (Below w5.heap.size w5 wr))
        case atStart => exact ⟨0, by omega, rfl, ⟨Below.refl _ _⟩⟩
        case round =>
          obtain ⟨k, hk, rfl, HBr⟩ := hrel
          cases gk with
          | zero =>
            have hltb : decide ((k : Int) < (X.length : Int)) = false := by simp; omega
            go_wp2_with fail
            refine (live_calls _).mono ?_
            rintro e w8 ⟨rfl, hB8⟩
            have HB8 := Aside0.mk (below_then (below_then (below_then HBw.out HBw.out.size HB5.out) (below_then HBw.out HBw.out.size HB5.out).size HBr.out) (below_then (below_then HBw.out HBw.out.size HB5.out) (below_then HBw.out HBw.out.size HB5.out).size HBr.out).size hB8)
            clear hB8
            go_wp2
            go_ret
            exact ⟨rfl, HB8.out⟩
          | succ gk =>
            have hltb : decide ((k : Int) < (X.length : Int)) = true := by simp; omega
            have hcX := (Kd.R_reads' (Kd.R_below HX5.out HBr.out)).2.2
            have hcY := (Kd.R_reads' (Kd.R_below HY5.out HBr.out)).2
            obtain ⟨ad, rfl, z0, z1, z2, z3, z4⟩ := at_T42 hcX (k : Int) (by omega) (by omega)
            rw [Int.toNat_natCast] at z0 z1 z2 z3 z4
            obtain ⟨kf, r, hf, hbind⟩ := HLW.out k (by omega)
            have HZ := Aside0.mk (And.intro z0 (And.intro z1 (And.intro z2 (And.intro z3 z4))))
            have HF := Aside0.mk hf
            have HBI := Aside0.mk hbind
            have HCY := Aside0.mk hcY
            clear hf hbind hcX z1 z2 z3 z4 hcY
            generalize rd_T42 X (k : Int) = x at HF HBI HZ z0
            go_wp2_with fail
            refine (resolve_Find.calls kf Ay cy Y x.f0 r.f0 r.f1 r.f2 r.f3 r.f4 true wr HCY.out.2 HCY.out.1 HF.out).mono ?_
            rintro e w8 ⟨rfl, hB8⟩
            have HB8 := Aside0.mk (below_then HBr.out HBr.out.size hB8)
            obtain ⟨z0, z1, z2, z3, z4⟩ := HZ.out
            have HZ8 := Aside0.mk (And.intro (pw_cell_below hB8 z0) (And.intro (pw_cell_below hB8 z1) (And.intro (pw_cell_below hB8 z2) (And.intro (pw_cell_below hB8 z3) (pw_cell_below hB8 z4)))))
            clear hB8 z0 z1 z2 z3 z4 HZ HF HCY
            go_wp2_with fail
            have hG9 := blk_new w8 (.cells #[.string r.f0, .int .i64 r.f1, .int .i64 r.f2, .int .i64 r.f3, .int .i64 r.f4] 42)
            have hB9 := below_alloc (Below.refl w8.heap.size w8) (.cells #[.string r.f0, .int .i64 r.f1, .int .i64 r.f2, .int .i64 r.f3, .int .i64 r.f4] 42)
            obtain ⟨w9, hw9⟩ : ∃ w9, w9 = w8.alloc (.cells #[.string r.f0, .int .i64 r.f1, .int .i64 r.f2, .int .i64 r.f3, .int .i64 r.f4] 42) := ⟨_, rfl⟩
            rw [← hw9] at hG9 hB9 ⊢
            have HB9 := Aside0.mk (below_then HB8.out HB8.out.size hB9)
            obtain ⟨y0, y1, y2, y3, y4⟩ := HZ8.out
            have x0 := (blk_cell hG9 0).trans rfl
            have HU : Aside0 ((w9.cell? ⟨w8.heap.size, 0, none⟩ = some (.string r.f0) ∧ w9.cell? ⟨w8.heap.size, 1, none⟩ = some (.int .i64 r.f1) ∧ w9.cell? ⟨w8.heap.size, 2, none⟩ = some (.int .i64 r.f2) ∧ w9.cell? ⟨w8.heap.size, 3, none⟩ = some (.int .i64 r.f3) ∧ w9.cell? ⟨w8.heap.size, 4, none⟩ = some (.int .i64 r.f4)) ∧
                w9.cell? (ad.add (k * 5)) = some (.string x.f0) ∧ w9.cell? ⟨(ad.add (k * 5)).block, (ad.add (k * 5)).off + 1, none⟩ = some (.int .i64 x.f1) ∧ w9.cell? ⟨(ad.add (k * 5)).block, (ad.add (k * 5)).off + 2, none⟩ = some (.int .i64 x.f2) ∧ w9.cell? ⟨(ad.add (k * 5)).block, (ad.add (k * 5)).off + 3, none⟩ = some (.int .i64 x.f3) ∧ w9.cell? ⟨(ad.add (k * 5)).block, (ad.add (k * 5)).off + 4, none⟩ = some (.int .i64 x.f4)) :=
              ⟨⟨(blk_cell hG9 0).trans rfl, (blk_cell hG9 1).trans rfl, (blk_cell hG9 2).trans rfl, (blk_cell hG9 3).trans rfl, (blk_cell hG9 4).trans rfl⟩, pw_cell_below hB9 y0, pw_cell_below hB9 y1, pw_cell_below hB9 y2, pw_cell_below hB9 y3, pw_cell_below hB9 y4⟩
            clear hw9 hG9 hB9 y0 y1 y2 y3 y4 x0 HZ8 HB8
            by_cases hb : x.f3 = 1
            · have hb1 : (x.f3 == 1) = true := by simp [hb]
              obtain rfl := HBI.out hb
              clear HBI hb
              refine start_ (n := 18) (S := fun u => (u.cell? ⟨w8.heap.size, 0, none⟩ = some (.string r.f0) ∧ u.cell? ⟨w8.heap.size, 1, none⟩ = some (.int .i64 r.f1) ∧ u.cell? ⟨w8.heap.size, 2, none⟩ = some (.int .i64 r.f2) ∧ u.cell? ⟨w8.heap.size, 3, none⟩ = some (.int .i64 r.f3) ∧ u.cell? ⟨w8.heap.size, 4, none⟩ = some (.int .i64 r.f4)) ∧ u.cell? (ad.add (k * 5)) = some (.string r.f0) ∧ u.cell? ⟨(ad.add (k * 5)).block, (ad.add (k * 5)).off + 1, none⟩ = some (.int .i64 r.f1) ∧ u.cell? ⟨(ad.add (k * 5)).block, (ad.add (k * 5)).off + 2, none⟩ = some (.int .i64 r.f2) ∧ u.cell? ⟨(ad.add (k * 5)).block, (ad.add (k * 5)).off + 3, none⟩ = some (.int .i64 r.f3) ∧ u.cell? ⟨(ad.add (k * 5)).block, (ad.add (k * 5)).off + 4, none⟩ = some (.int .i64 r.f4)) (ds := []) #[false, false, false, false, false, false, false, false, false, false, false, false, false, false, false, false, false, false] (by kernel_rfl) rfl rfl ?_ (fun hHeld => ?_)
              case refine_1 => exact HU.out
              refine pure_ (i := 0) (N := some 58) (v := ?_) (a' := ?_) #[true, false, false, false, false, false, false, false, false, false, false, false, false, false, false, false, false, false] rfl rfl (by kernel_rfl) (fun _ _ _ h => h) (Or.inl ⟨by rfl, ?_⟩) ?_ ?_
              rotate_left
              · intro u
                go_simp
                with_reducible rfl
              rotate_left
              · simp only [Act.put, List.setIfInBounds_toArray, List.set_cons_zero, List.set_cons_succ, i64_w, i32_w]
                rfl
              refine pure_ (i := 1) (N := some 59) (v := ?_) (a' := ?_) #[true, true, false, false, false, false, false, false, false, false, false, false, false, false, false, false, false, false] rfl rfl (by kernel_rfl) (fun _ _ _ h => h) (Or.inl ⟨by rfl, ?_⟩) ?_ ?_
              rotate_left
              · intro u
                go_simp
                with_reducible rfl
              rotate_left
              · simp only [Act.put, List.setIfInBounds_toArray, List.set_cons_zero, List.set_cons_succ, i64_w, i32_w]
                rfl
              refine pure_ (i := 2) (N := some 60) (v := ?_) (a' := ?_) #[true, true, true, false, false, false, false, false, false, false, false, false, false, false, false, false, false, false] rfl rfl (by kernel_rfl) (fun _ _ _ h => h) (Or.inl ⟨by rfl, ?_⟩) ?_ ?_
              rotate_left
              · intro u
                go_simp
                with_reducible rfl
              rotate_left
              · simp only [Act.put, List.setIfInBounds_toArray, List.set_cons_zero, List.set_cons_succ, i64_w, i32_w]
                rfl
              refine pure_ (i := 3) (N := some 61) (v := ?_) (a' := ?_) #[true, true, true, true, false, false, false, false, false, false, false, false, false, false, false, false, false, false] rfl rfl (by kernel_rfl) (fun _ _ _ h => h) ?_ ?_ ?_
              rotate_left
              · first
                | (refine Or.inr ⟨by rfl, ?_⟩; with_reducible rfl)
                | (refine Or.inl ⟨by rfl, ?_⟩
                   intro u
                   go_simp
                   with_reducible rfl)
              rotate_left
              · simp only [Act.put, List.setIfInBounds_toArray, List.set_cons_zero, List.set_cons_succ, i64_w, i32_w]
                rfl
              refine pure_ (i := 4) (N := some 62) (v := ?_) (a' := ?_) #[true, true, true, true, true, false, false, false, false, false, false, false, false, false, false, false, false, false] rfl rfl (by kernel_rfl) (fun _ _ _ h => h) ?_ ?_ ?_
              rotate_left
              · first
                | (refine Or.inr ⟨by rfl, ?_⟩; with_reducible rfl)
                | (refine Or.inl ⟨by rfl, ?_⟩
                   intro u
                   go_simp
                   with_reducible rfl)
              rotate_left
              · simp only [Act.put, List.setIfInBounds_toArray, List.set_cons_zero, List.set_cons_succ, i64_w, i32_w]
                rfl
              refine pure_ (i := 5) (N := some 63) (v := ?_) (a' := ?_) #[true, true, true, true, true, true, false, false, false, false, false, false, false, false, false, false, false, false] rfl rfl (by kernel_rfl) (fun _ _ _ h => h) ?_ ?_ ?_
              rotate_left
              · first
                | (refine Or.inr ⟨by rfl, ?_⟩; with_reducible rfl)
                | (refine Or.inl ⟨by rfl, ?_⟩
                   intro u
                   go_simp
                   with_reducible rfl)
              rotate_left
              · simp only [Act.put, List.setIfInBounds_toArray, List.set_cons_zero, List.set_cons_succ, i64_w, i32_w]
                rfl
              refine pure_ (i := 6) (N := some 64) (v := ?_) (a' := ?_) #[true, true, true, true, true, true, true, false, false, false, false, false, false, false, false, false, false, false] rfl rfl (by kernel_rfl) (fun _ _ _ h => h) ?_ ?_ ?_
              rotate_left
              · first
                | (refine Or.inr ⟨by rfl, ?_⟩; with_reducible rfl)
                | (refine Or.inl ⟨by rfl, ?_⟩
                   intro u
                   go_simp
                   with_reducible rfl)
              rotate_left
              · simp only [Act.put, List.setIfInBounds_toArray, List.set_cons_zero, List.set_cons_succ, i64_w, i32_w]
                rfl
              refine take_ (i := 7) (N := some 65) (v := ?_) (a' := ?_) #[true, true, true, true, true, true, true, true, false, false, false, false, false, false, false, false, false, false] rfl rfl (by kernel_rfl) (fun _ _ _ h => h) ?_ hHeld ?_ ?_
              rotate_left
              · first
                | (refine Or.inr ⟨by rfl, ?_⟩; with_reducible rfl)
                | (refine Or.inl ⟨by rfl, ?_⟩
                   rintro u ⟨⟨s0, s1, s2, s3, s4⟩, s5, s6, s7, s8, s9⟩
                   go_simp
                   with_reducible rfl)
              rotate_left
              · simp only [Act.put, List.setIfInBounds_toArray, List.set_cons_zero, List.set_cons_succ, i64_w, i32_w]
                rfl
              refine pure_ (i := 8) (N := some 66) (v := ?_) (a' := ?_) #[true, true, true, true, true, true, true, true, true, false, false, false, false, false, false, false, false, false] rfl rfl (by kernel_rfl) (fun _ _ _ h => h) ?_ ?_ ?_
              rotate_left
              · first
                | (refine Or.inr ⟨by rfl, ?_⟩; with_reducible rfl)
                | (refine Or.inl ⟨by rfl, ?_⟩
                   intro u
                   go_simp
                   with_reducible rfl)
              rotate_left
              · simp only [Act.put, List.setIfInBounds_toArray, List.set_cons_zero, List.set_cons_succ, i64_w, i32_w]
                rfl
              refine pure_ (i := 9) (N := some 67) (v := ?_) (a' := ?_) #[true, true, true, true, true, true, true, true, true, true, false, false, false, false, false, false, false, false] rfl rfl (by kernel_rfl) (fun _ _ _ h => h) ?_ ?_ ?_
              rotate_left
              · first
                | (refine Or.inr ⟨by rfl, ?_⟩; with_reducible rfl)
                | (refine Or.inl ⟨by rfl, ?_⟩
                   intro u
                   go_simp
                   with_reducible rfl)
              rotate_left
              · simp only [Act.put, List.setIfInBounds_toArray, List.set_cons_zero, List.set_cons_succ, i64_w, i32_w]
                rfl
              refine take_ (i := 10) (N := some 68) (v := ?_) (a' := ?_) #[true, true, true, true, true, true, true, true, true, true, true, false, false, false, false, false, false, false] rfl rfl (by kernel_rfl) (fun _ _ _ h => h) ?_ hHeld ?_ ?_
              rotate_left
              · first
                | (refine Or.inr ⟨by rfl, ?_⟩; with_reducible rfl)
                | (refine Or.inl ⟨by rfl, ?_⟩
                   rintro u ⟨⟨s0, s1, s2, s3, s4⟩, s5, s6, s7, s8, s9⟩
                   go_simp
                   with_reducible rfl)
              rotate_left
              · simp only [Act.put, List.setIfInBounds_toArray, List.set_cons_zero, List.set_cons_succ, i64_w, i32_w]
                rfl
              refine pure_ (i := 11) (N := some 69) (v := ?_) (a' := ?_) #[true, true, true, true, true, true, true, true, true, true, true, true, false, false, false, false, false, false] rfl rfl (by kernel_rfl) (fun _ _ _ h => h) ?_ ?_ ?_
              rotate_left
              · first
                | (refine Or.inr ⟨by rfl, ?_⟩; with_reducible rfl)
                | (refine Or.inl ⟨by rfl, ?_⟩
                   intro u
                   go_simp
                   with_reducible rfl)
              rotate_left
              · simp only [Act.put, List.setIfInBounds_toArray, List.set_cons_zero, List.set_cons_succ, i64_w, i32_w]
                rfl
              refine pure_ (i := 12) (N := some 70) (v := ?_) (a' := ?_) #[true, true, true, true, true, true, true, true, true, true, true, true, true, false, false, false, false, false] rfl rfl (by kernel_rfl) (fun _ _ _ h => h) ?_ ?_ ?_
              rotate_left
              · first
                | (refine Or.inr ⟨by rfl, ?_⟩; with_reducible rfl)
                | (refine Or.inl ⟨by rfl, ?_⟩
                   intro u
                   go_simp
                   with_reducible rfl)
              rotate_left
              · simp only [Act.put, List.setIfInBounds_toArray, List.set_cons_zero, List.set_cons_succ, i64_w, i32_w]
                rfl
              refine pure_ (i := 13) (N := some 71) (v := ?_) (a' := ?_) #[true, true, true, true, true, true, true, true, true, true, true, true, true, true, false, false, false, false] rfl rfl (by kernel_rfl) (fun _ _ _ h => h) ?_ ?_ ?_
              rotate_left
              · first
                | (refine Or.inr ⟨by rfl, ?_⟩; with_reducible rfl)
                | (refine Or.inl ⟨by rfl, ?_⟩
                   intro u
                   go_simp
                   with_reducible rfl)
              rotate_left
              · simp only [Act.put, List.setIfInBounds_toArray, List.set_cons_zero, List.set_cons_succ, i64_w, i32_w]
                rfl
              refine take_ (i := 14) (N := some 72) (v := ?_) (a' := ?_) #[true, true, true, true, true, true, true, true, true, true, true, true, true, true, true, false, false, false] rfl rfl (by kernel_rfl) (fun _ _ _ h => h) ?_ hHeld ?_ ?_
              rotate_left
              · first
                | (refine Or.inr ⟨by rfl, ?_⟩; with_reducible rfl)
                | (refine Or.inl ⟨by rfl, ?_⟩
                   rintro u ⟨⟨s0, s1, s2, s3, s4⟩, s5, s6, s7, s8, s9⟩
                   go_simp
                   with_reducible rfl)
              rotate_left
              · simp only [Act.put, List.setIfInBounds_toArray, List.set_cons_zero, List.set_cons_succ, i64_w, i32_w]
                rfl
              refine pure_ (i := 15) (N := some 73) (v := ?_) (a' := ?_) #[true, true, true, true, true, true, true, true, true, true, true, true, true, true, true, true, false, false] rfl rfl (by kernel_rfl) (fun _ _ _ h => h) ?_ ?_ ?_
              rotate_left
              · first
                | (refine Or.inr ⟨by rfl, ?_⟩; with_reducible rfl)
                | (refine Or.inl ⟨by rfl, ?_⟩
                   intro u
                   go_simp
                   with_reducible rfl)
              rotate_left
              · simp only [Act.put, List.setIfInBounds_toArray, List.set_cons_zero, List.set_cons_succ, i64_w, i32_w]
                rfl
              refine pure_ (i := 16) (N := some 74) (v := ?_) (a' := ?_) #[true, true, true, true, true, true, true, true, true, true, true, true, true, true, true, true, true, false] rfl rfl (by kernel_rfl) (fun _ _ _ h => h) ?_ ?_ ?_
              rotate_left
              · first
                | (refine Or.inr ⟨by rfl, ?_⟩; with_reducible rfl)
                | (refine Or.inl ⟨by rfl, ?_⟩
                   intro u
                   go_simp
                   with_reducible rfl)
              rotate_left
              · simp only [Act.put, List.setIfInBounds_toArray, List.set_cons_zero, List.set_cons_succ, i64_w, i32_w]
                rfl
              refine pure_ (i := 17) (N := some 75) (v := ?_) (a' := ?_) #[true, true, true, true, true, true, true, true, true, true, true, true, true, true, true, true, true, true] rfl rfl (by kernel_rfl) (fun _ _ _ h => h) (Or.inl ⟨by rfl, ?_⟩) ?_ ?_
              rotate_left
              · intro u
                go_simp
                with_reducible rfl
              rotate_left
              · simp only [Act.put, List.setIfInBounds_toArray, List.set_cons_zero, List.set_cons_succ, i64_w, i32_w]
                rfl
              refine done_ (by kernel_rfl) ?_
              go_wp2
              go_roundg gk
              case measure => omega
              case rel => exact ⟨k + 1, by omega, by go_num, ⟨below_drew HB9.out⟩⟩
            · have hb1 : (x.f3 == 1) = false := by simp [hb]
              clear HBI hb
              refine start_ (n := 18) (S := fun u => (u.cell? ⟨w8.heap.size, 0, none⟩ = some (.string r.f0) ∧ u.cell? ⟨w8.heap.size, 1, none⟩ = some (.int .i64 r.f1) ∧ u.cell? ⟨w8.heap.size, 2, none⟩ = some (.int .i64 r.f2) ∧ u.cell? ⟨w8.heap.size, 3, none⟩ = some (.int .i64 r.f3) ∧ u.cell? ⟨w8.heap.size, 4, none⟩ = some (.int .i64 r.f4)) ∧ u.cell? (ad.add (k * 5)) = some (.string x.f0) ∧ u.cell? ⟨(ad.add (k * 5)).block, (ad.add (k * 5)).off + 1, none⟩ = some (.int .i64 x.f1) ∧ u.cell? ⟨(ad.add (k * 5)).block, (ad.add (k * 5)).off + 2, none⟩ = some (.int .i64 x.f2) ∧ u.cell? ⟨(ad.add (k * 5)).block, (ad.add (k * 5)).off + 3, none⟩ = some (.int .i64 x.f3) ∧ u.cell? ⟨(ad.add (k * 5)).block, (ad.add (k * 5)).off + 4, none⟩ = some (.int .i64 x.f4)) (ds := []) #[false, false, false, false, false, false, false, false, false, false, false, false, false, false, false, false, false, false] (by kernel_rfl) rfl rfl ?_ (fun hHeld => ?_)
              case refine_1 => exact HU.out
              refine pure_ (i := 0) (N := some 58) (v := ?_) (a' := ?_) #[true, false, false, false, false, false, false, false, false, false, false, false, false, false, false, false, false, false] rfl rfl (by kernel_rfl) (fun _ _ _ h => h) (Or.inl ⟨by rfl, ?_⟩) ?_ ?_
              rotate_left
              · intro u
                go_simp
                with_reducible rfl
              rotate_left
              · simp only [Act.put, List.setIfInBounds_toArray, List.set_cons_zero, List.set_cons_succ, i64_w, i32_w]
                rfl
              refine pure_ (i := 1) (N := some 59) (v := ?_) (a' := ?_) #[true, true, false, false, false, false, false, false, false, false, false, false, false, false, false, false, false, false] rfl rfl (by kernel_rfl) (fun _ _ _ h => h) (Or.inl ⟨by rfl, ?_⟩) ?_ ?_
              rotate_left
              · intro u
                go_simp
                with_reducible rfl
              rotate_left
              · simp only [Act.put, List.setIfInBounds_toArray, List.set_cons_zero, List.set_cons_succ, i64_w, i32_w]
                rfl
              refine pure_ (i := 2) (N := some 60) (v := ?_) (a' := ?_) #[true, true, true, false, false, false, false, false, false, false, false, false, false, false, false, false, false, false] rfl rfl (by kernel_rfl) (fun _ _ _ h => h) (Or.inl ⟨by rfl, ?_⟩) ?_ ?_
              rotate_left
              · intro u
                go_simp
                with_reducible rfl
              rotate_left
              · simp only [Act.put, List.setIfInBounds_toArray, List.set_cons_zero, List.set_cons_succ, i64_w, i32_w]
                rfl
              refine pure_ (i := 3) (N := some 61) (v := ?_) (a' := ?_) #[true, true, true, true, false, false, false, false, false, false, false, false, false, false, false, false, false, false] rfl rfl (by kernel_rfl) (fun _ _ _ h => h) ?_ ?_ ?_
              rotate_left
              · first
                | (refine Or.inr ⟨by rfl, ?_⟩; with_reducible rfl)
                | (refine Or.inl ⟨by rfl, ?_⟩
                   intro u
                   go_simp
                   with_reducible rfl)
              rotate_left
              · simp only [Act.put, List.setIfInBounds_toArray, List.set_cons_zero, List.set_cons_succ, i64_w, i32_w]
                rfl
              refine pure_ (i := 4) (N := some 62) (v := ?_) (a' := ?_) #[true, true, true, true, true, false, false, false, false, false, false, false, false, false, false, false, false, false] rfl rfl (by kernel_rfl) (fun _ _ _ h => h) ?_ ?_ ?_
              rotate_left
              · first
                | (refine Or.inr ⟨by rfl, ?_⟩; with_reducible rfl)
                | (refine Or.inl ⟨by rfl, ?_⟩
                   intro u
                   go_simp
                   with_reducible rfl)
              rotate_left
              · simp only [Act.put, List.setIfInBounds_toArray, List.set_cons_zero, List.set_cons_succ, i64_w, i32_w]
                rfl
              refine pure_ (i := 5) (N := some 63) (v := ?_) (a' := ?_) #[true, true, true, true, true, true, false, false, false, false, false, false, false, false, false, false, false, false] rfl rfl (by kernel_rfl) (fun _ _ _ h => h) ?_ ?_ ?_
              rotate_left
              · first
                | (refine Or.inr ⟨by rfl, ?_⟩; with_reducible rfl)
                | (refine Or.inl ⟨by rfl, ?_⟩
                   intro u
                   go_simp
                   with_reducible rfl)
              rotate_left
              · simp only [Act.put, List.setIfInBounds_toArray, List.set_cons_zero, List.set_cons_succ, i64_w, i32_w]
                rfl
              refine pure_ (i := 6) (N := some 64) (v := ?_) (a' := ?_) #[true, true, true, true, true, true, true, false, false, false, false, false, false, false, false, false, false, false] rfl rfl (by kernel_rfl) (fun _ _ _ h => h) ?_ ?_ ?_
              rotate_left
              · first
                | (refine Or.inr ⟨by rfl, ?_⟩; with_reducible rfl)
                | (refine Or.inl ⟨by rfl, ?_⟩
                   intro u
                   go_simp
                   with_reducible rfl)
              rotate_left
              · simp only [Act.put, List.setIfInBounds_toArray, List.set_cons_zero, List.set_cons_succ, i64_w, i32_w]
                rfl
              refine take_ (i := 7) (N := some 65) (v := ?_) (a' := ?_) #[true, true, true, true, true, true, true, true, false, false, false, false, false, false, false, false, false, false] rfl rfl (by kernel_rfl) (fun _ _ _ h => h) ?_ hHeld ?_ ?_
              rotate_left
              · first
                | (refine Or.inr ⟨by rfl, ?_⟩; with_reducible rfl)
                | (refine Or.inl ⟨by rfl, ?_⟩
                   rintro u ⟨⟨s0, s1, s2, s3, s4⟩, s5, s6, s7, s8, s9⟩
                   go_simp
                   with_reducible rfl)
              rotate_left
              · simp only [Act.put, List.setIfInBounds_toArray, List.set_cons_zero, List.set_cons_succ, i64_w, i32_w]
                rfl
              refine pure_ (i := 8) (N := some 66) (v := ?_) (a' := ?_) #[true, true, true, true, true, true, true, true, true, false, false, false, false, false, false, false, false, false] rfl rfl (by kernel_rfl) (fun _ _ _ h => h) ?_ ?_ ?_
              rotate_left
              · first
                | (refine Or.inr ⟨by rfl, ?_⟩; with_reducible rfl)
                | (refine Or.inl ⟨by rfl, ?_⟩
                   intro u
                   go_simp
                   with_reducible rfl)
              rotate_left
              · simp only [Act.put, List.setIfInBounds_toArray, List.set_cons_zero, List.set_cons_succ, i64_w, i32_w]
                rfl
              refine pure_ (i := 9) (N := some 67) (v := ?_) (a' := ?_) #[true, true, true, true, true, true, true, true, true, true, false, false, false, false, false, false, false, false] rfl rfl (by kernel_rfl) (fun _ _ _ h => h) ?_ ?_ ?_
              rotate_left
              · first
                | (refine Or.inr ⟨by rfl, ?_⟩; with_reducible rfl)
                | (refine Or.inl ⟨by rfl, ?_⟩
                   intro u
                   go_simp
                   with_reducible rfl)
              rotate_left
              · simp only [Act.put, List.setIfInBounds_toArray, List.set_cons_zero, List.set_cons_succ, i64_w, i32_w]
                rfl
              refine take_ (i := 10) (N := some 68) (v := ?_) (a' := ?_) #[true, true, true, true, true, true, true, true, true, true, true, false, false, false, false, false, false, false] rfl rfl (by kernel_rfl) (fun _ _ _ h => h) ?_ hHeld ?_ ?_
              rotate_left
              · first
                | (refine Or.inr ⟨by rfl, ?_⟩; with_reducible rfl)
                | (refine Or.inl ⟨by rfl, ?_⟩
                   rintro u ⟨⟨s0, s1, s2, s3, s4⟩, s5, s6, s7, s8, s9⟩
                   go_simp
                   with_reducible rfl)
              rotate_left
              · simp only [Act.put, List.setIfInBounds_toArray, List.set_cons_zero, List.set_cons_succ, i64_w, i32_w]
                rfl
              refine pure_ (i := 11) (N := some 69) (v := ?_) (a' := ?_) #[true, true, true, true, true, true, true, true, true, true, true, true, false, false, false, false, false, false] rfl rfl (by kernel_rfl) (fun _ _ _ h => h) ?_ ?_ ?_
              rotate_left
              · first
                | (refine Or.inr ⟨by rfl, ?_⟩; with_reducible rfl)
                | (refine Or.inl ⟨by rfl, ?_⟩
                   intro u
                   go_simp
                   with_reducible rfl)
              rotate_left
              · simp only [Act.put, List.setIfInBounds_toArray, List.set_cons_zero, List.set_cons_succ, i64_w, i32_w]
                rfl
              refine pure_ (i := 12) (N := some 70) (v := ?_) (a' := ?_) #[true, true, true, true, true, true, true, true, true, true, true, true, true, false, false, false, false, false] rfl rfl (by kernel_rfl) (fun _ _ _ h => h) ?_ ?_ ?_
              rotate_left
              · first
                | (refine Or.inr ⟨by rfl, ?_⟩; with_reducible rfl)
                | (refine Or.inl ⟨by rfl, ?_⟩
                   intro u
                   go_simp
                   with_reducible rfl)
              rotate_left
              · simp only [Act.put, List.setIfInBounds_toArray, List.set_cons_zero, List.set_cons_succ, i64_w, i32_w]
                rfl
              refine pure_ (i := 13) (N := some 71) (v := ?_) (a' := ?_) #[true, true, true, true, true, true, true, true, true, true, true, true, true, true, false, false, false, false] rfl rfl (by kernel_rfl) (fun _ _ _ h => h) ?_ ?_ ?_
              rotate_left
              · first
                | (refine Or.inr ⟨by rfl, ?_⟩; with_reducible rfl)
                | (refine Or.inl ⟨by rfl, ?_⟩
                   intro u
                   go_simp
                   with_reducible rfl)
              rotate_left
              · simp only [Act.put, List.setIfInBounds_toArray, List.set_cons_zero, List.set_cons_succ, i64_w, i32_w]
                rfl
              refine take_ (i := 14) (N := some 72) (v := ?_) (a' := ?_) #[true, true, true, true, true, true, true, true, true, true, true, true, true, true, true, false, false, false] rfl rfl (by kernel_rfl) (fun _ _ _ h => h) ?_ hHeld ?_ ?_
              rotate_left
              · first
                | (refine Or.inr ⟨by rfl, ?_⟩; with_reducible rfl)
                | (refine Or.inl ⟨by rfl, ?_⟩
                   rintro u ⟨⟨s0, s1, s2, s3, s4⟩, s5, s6, s7, s8, s9⟩
                   go_simp
                   with_reducible rfl)
              rotate_left
              · simp only [Act.put, List.setIfInBounds_toArray, List.set_cons_zero, List.set_cons_succ, i64_w, i32_w]
                rfl
              refine pure_ (i := 15) (N := some 73) (v := ?_) (a' := ?_) #[true, true, true, true, true, true, true, true, true, true, true, true, true, true, true, true, false, false] rfl rfl (by kernel_rfl) (fun _ _ _ h => h) ?_ ?_ ?_
              rotate_left
              · first
                | (refine Or.inr ⟨by rfl, ?_⟩; with_reducible rfl)
                | (refine Or.inl ⟨by rfl, ?_⟩
                   intro u
                   go_simp
                   with_reducible rfl)
              rotate_left
              · simp only [Act.put, List.setIfInBounds_toArray, List.set_cons_zero, List.set_cons_succ, i64_w, i32_w]
                rfl
              refine pure_ (i := 16) (N := some 74) (v := ?_) (a' := ?_) #[true, true, true, true, true, true, true, true, true, true, true, true, true, true, true, true, true, false] rfl rfl (by kernel_rfl) (fun _ _ _ h => h) ?_ ?_ ?_
              rotate_left
              · first
                | (refine Or.inr ⟨by rfl, ?_⟩; with_reducible rfl)
                | (refine Or.inl ⟨by rfl, ?_⟩
                   intro u
                   go_simp
                   with_reducible rfl)
              rotate_left
              · simp only [Act.put, List.setIfInBounds_toArray, List.set_cons_zero, List.set_cons_succ, i64_w, i32_w]
                rfl
              refine pure_ (i := 17) (N := some 75) (v := ?_) (a' := ?_) #[true, true, true, true, true, true, true, true, true, true, true, true, true, true, true, true, true, true] rfl rfl (by kernel_rfl) (fun _ _ _ h => h) (Or.inl ⟨by rfl, ?_⟩) ?_ ?_
              rotate_left
              · intro u
                go_simp
                with_reducible rfl
              rotate_left
              · simp only [Act.put, List.setIfInBounds_toArray, List.set_cons_zero, List.set_cons_succ, i64_w, i32_w]
                rfl
              refine done_ (by kernel_rfl) ?_
              go_wp2
              go_roundg gk
              case measure => omega
              case rel => exact ⟨k + 1, by omega, by go_num, ⟨below_drew HB9.out⟩⟩
      · have hx1 : (E2 != 0) = true := by simp [h1]
        go_wp2_with fail
        refine (live_calls _).mono ?_
        rintro e w8 ⟨rfl, hB8⟩
        have HB8 := Aside0.mk (below_then (below_then HBw.out HBw.out.size HB5.out) (below_then HBw.out HBw.out.size HB5.out).size hB8)
        clear hB8
        go_wp2
        go_ret
        exact ⟨rfl, HB8.out⟩
    have HFIN := Aside0.mk hfin
    clear hfin
    refine start_ (n := 13) (S := fun u => u.cell? ⟨w.heap.size, 0, none⟩ = some (.slice A1 l1.length c1) ∧ u.cell? ⟨w.heap.size, 1, none⟩ = some (.slice A2 l2.length c2)) (ds := []) #[false, false, false, false, false, false, false, false, false, false, false, false, false] (by kernel_rfl) rfl rfl ?_ (fun hHeld => ?_)
    case refine_1 =>
      rw [← hW]
      exact ⟨(blk_cell HBMW.out 0).trans rfl, (blk_cell HBMW.out 1).trans rfl⟩
    rw [← hW] at hHeld ⊢
    clear hW
    refine pure_ (i := 1) (N := some 29) (v := ?_) (a' := ?_) #[false, true, false, false, false, false, false, false, false, false, false, false, false] rfl rfl (by kernel_rfl) (fun _ _ _ h => h) (Or.inl ⟨by rfl, ?_⟩) ?_ ?_
    rotate_left
    · intro u
      go_simp
      with_reducible rfl
    rotate_left
    · simp only [Act.put, List.setIfInBounds_toArray, List.set_cons_zero, List.set_cons_succ, i64_w, i32_w]
      rfl
    refine take_ (i := 3) (N := some 31) (v := ?_) (a' := ?_) #[false, true, false, true, false, false, false, false, false, false, false, false, false] rfl rfl (by kernel_rfl) (fun _ _ _ h => h) (Or.inl ⟨by rfl, ?_⟩) hHeld ?_ ?_
    rotate_left
    · rintro u ⟨q0, q1⟩
      go_simp
      with_reducible rfl
    rotate_left
    · simp only [Act.put, List.setIfInBounds_toArray, List.set_cons_zero, List.set_cons_succ, i64_w, i32_w]
      rfl
    clear hHeld
    have HSS : Aside0 (∀ u, Below W.heap.size W u → u.cell? ⟨w.heap.size, 0, none⟩ = some (.slice A1 l1.length c1) ∧ u.cell? ⟨w.heap.size, 1, none⟩ = some (.slice A2 l2.length c2)) := ⟨fun u hu => ⟨(blk_cell (blk_below HBMW.out hu) 0).trans rfl, (blk_cell (blk_below HBMW.out hu) 1).trans rfl⟩⟩
    refine with_ops (opsOf Try.f5 4) (by kernel_rfl) (fun hops => ?_)
    have HM4 := Aside0.mk mem4
    rw [hops] at HM4
    clear hops
    refine any_ (fun n l a w' => ∃ (b0 b2 b4 b5 b10 : Bool) (v28 v30 v32 v33 v8 : Value), n = 6 + ((!b0).toNat + (!b2).toNat + (!b4).toNat + (!b5).toNat + (!b10).toNat) ∧ l = ls4 b0 b2 b4 b5 b10 ∧
      a = { tmps := #[.slice A0 l0.length c0, .agg #[.slice A1 l1.length c1, .slice A2 l2.length c2], undef, .pointer (some ⟨w.heap.size, 0, none⟩), .bool false, .slice Av X.length cv, .pointer (some ⟨w1.heap.size, 0, none⟩), undef, v8, undef, undef, undef, .tuple #[.slice Av X.length cv, .agg #[.int .i64 0, .string T]], .slice A0 l0.length c0, .tuple #[.slice Av X.length cv, .agg #[.int .i64 0, .string T]], .slice Av X.length cv, .agg #[.int .i64 0, .string T], .pointer (some ⟨w1.heap.size, 0, none⟩), .int .i64 0, .int .i64 0, .bool false, undef, undef, undef, undef, undef, undef, undef, v28, .slice A0 l0.length c0, v30, .agg #[.slice A1 l1.length c1, .slice A2 l2.length c2], v32, v33, undef, undef, undef, undef, undef, undef, undef, undef, undef, undef, undef, undef, undef, undef, undef, undef, undef, undef, undef, undef, undef, undef, undef, undef, undef, undef, undef, undef, undef, undef, undef, undef, undef, undef, undef, undef, undef, undef, undef, undef, undef, undef, undef], defers := [] } ∧ Inv4 W l0 (.slice A1 l1.length c1) (.slice A2 l2.length c2) ⟨l1, l2⟩ b0 b2 b4 b5 b10 v28 v30 v32 v33 v8 w') ?_ ?_ _ _ _ _ ?_
    · rintro l a w' ⟨b0, b2, b4, b5, b10, _, _, _, _, _, hn, _⟩
      omega
    · rintro n ih l a w' ⟨b0, b2, b4, b5, b10, v28, v30, v32, v33, v8, hn, rfl, rfl, hI⟩
      have hm4 := HM4.out b0 b2 b4 b5 b10
      refine And.intro (fun h => ?_) (fun i hi => ?_)
      · rw [h] at hm4
        exact absurd hm4.2 (by simp)
      have h3 := List.all_eq_true.1 hm4.1 i hi
      clear hm4 hi
      simp only [Bool.or_eq_true, Bool.and_eq_true, beq_iff_eq, Bool.not_eq_true'] at h3
      have hbs := hI.hB.size
      rcases h3 with ((((⟨rfl, rfl⟩ | ⟨⟨rfl, rfl⟩, rfl⟩) | ⟨rfl, rfl⟩) | ⟨⟨⟨rfl, rfl⟩, rfl⟩, rfl⟩) | ⟨rfl, rfl⟩) | ⟨rfl, rfl⟩
      · refine wpOp_step rfl (fun K1 hK1 => ?_)
        refine Kd.N_lit_step k36 W.heap.size 36 ?hg (N' := 28) ?hd (w0 := W) (xs := ([] : List S36)) (inner := []) (ok := fun _ => True) (okp := fun _ => True) ?hr (Reps.none _ _) (fun _ _ => trivial) trivial hI.hB hbs (by simp) ?_
        case hd => rfl
        case hg => rfl
        case hr => first | (go_simp; done) | (go_simp; rfl)
        intro v u hN hB1 hg ho
        refine hK1 _ _ ⟨fun _ _ => HSS.out _ hB1, ih _ _ _ ⟨true, b2, b4, b5, b10, v, v30, v32, v33, v8, by simp at hn ⊢; omega, rfl, ?_, hI.step0 hN hB1 hg ho⟩⟩
        simp only [Act.put, List.setIfInBounds_toArray, List.set_cons_zero, List.set_cons_succ, i64_w, i32_w]
        rfl
      · refine wpOp_step rfl (fun K1 hK1 => ?_)
        have hN0 := hI.h0 rfl rfl
        refine Kd.N_append_rows_step k36 (w0 := W) W.heap.size (by rfl) (.tmp 28) (.tmp 29) 22 36 (.agg #[(.slice none 0 0), (.slice none 0 0)]) 48 rfl Try.underlying22 info36 rfl (by decide) (by omega) v28 [] l0 _ _ _ (fun _ => True) (fun k => k < W.heap.size) rfl rfl hN0 (Kd.F_below (Kd.C_F k36_heap HC0.out) hI.hB) (fun k hk => ⟨trivial, fun e => by have := Kd.N_base hN0 _ e.symm; omega⟩) (fun _ _ => trivial) hI.hB hbs (by simp only [List.length_nil]; omega) ?_
        intro v u hN hB1 hg ho
        refine hK1 _ _ ⟨fun _ _ => HSS.out _ hB1, ih _ _ _ ⟨true, true, b4, b5, b10, v28, v, v32, v33, v8, by simp at hn ⊢; omega, rfl, ?_, hI.step2 hN hB1 hg ho⟩⟩
        simp only [Act.put, List.setIfInBounds_toArray, List.set_cons_zero, List.set_cons_succ, i64_w, i32_w]
        rfl
      · refine wpOp_step rfl (fun K1 hK1 => ?_)
        refine event_step (v := .slice (some ⟨w'.heap.size, 0, none⟩) 1 1) (w1 := w'.alloc (.cells #[.slice A1 l1.length c1, .slice A2 l2.length c2] 36)) rfl (by first | (go_simp; done) | (go_simp; rfl)) ?_
        have hI2 := hI.step4 hbs
        refine hK1 _ _ ⟨fun _ _ => HSS.out _ hI2.hB, ih _ _ _ ⟨b0, b2, true, b5, b10, v28, v30, _, v33, v8, by simp at hn ⊢; omega, rfl, ?_, hI2⟩⟩
        simp only [Act.put, List.setIfInBounds_toArray, List.set_cons_zero, List.set_cons_succ, i64_w, i32_w]
        rfl
      · refine wpOp_step rfl (fun K1 hK1 => ?_)
        have hN0 := hI.h2 rfl rfl
        obtain ⟨g, rfl, hg1, hg2, hg3, hg4⟩ := hI.h4 rfl rfl
        refine Kd.N_append_rows_step k36 (w0 := W) W.heap.size (by rfl) (.tmp 30) (.tmp 32) 22 36 (.agg #[(.slice none 0 0), (.slice none 0 0)]) 48 rfl Try.underlying22 info36 rfl (by decide) (by omega) v30 l0 [⟨l1, l2⟩] _ _ _ (fun _ => True) (fun k => k < W.heap.size ∨ k = g) rfl rfl hN0 (F_one hg1 hI.hB hc1 HC1.out hc2 HC2.out) (fun k hk => ⟨trivial, fun e => by
          rcases hk with hk | rfl
          · have := Kd.N_base hN0 _ e.symm
            omega
          · exact hg4 rfl e⟩) (fun _ _ => trivial) hI.hB hbs (by omega) ?_
        intro v u hN hB1 hg ho
        refine hK1 _ _ ⟨fun _ _ => HSS.out _ hB1, ih _ _ _ ⟨b0, true, true, true, b10, v28, v30, _, v, v8, by simp at hn ⊢; omega, rfl, ?_, hI.step5 hN hB1 hg⟩⟩
        simp only [Act.put, List.setIfInBounds_toArray, List.set_cons_zero, List.set_cons_succ, i64_w, i32_w]
        rfl
      · obtain ⟨rfl, rfl⟩ := hI.c5 rfl
        obtain rfl := hI.c2 rfl
        have hN0 := hI.h5 rfl
        refine wpOp_step rfl (fun K1 hK1 => ?_)
        obtain ⟨Ar, cr, rfl, hcr, hCr⟩ := Kd.N_reads hN0
        refine call_ 7 #[.slice Ar (l0 ++ [(⟨l1, l2⟩ : S36)]).length cr] (by rfl) rfl (by go_simp) ?_
        have x4 := all_calls Ar cr (l0 ++ [(⟨l1, l2⟩ : S36)]) w' hCr hcr HS.out
        refine x4.mono ?_
        clear x4
        rintro e w6 ⟨ve, rfl, hR6, hB6⟩
        rw [allP_enc, ← HE2.out.1, ← HE2.out.2.1, ← HE2.out.2.2] at hR6 ⊢
        have HB6 := Aside0.mk (below_then hI.hB hI.hB.size hB6)
        have HR6 := Aside0.mk (Kd.R_lower hR6 hbs)
        refine ⟨_, rfl, ?_⟩
        refine hK1 _ _ ⟨fun _ _ => HSS.out _ HB6.out, ?_⟩
        refine norm_ (a' := ?_) ?_ ?_
        rotate_left
        · show Act.put _ (some 34) _ = _
          simp only [Act.put, List.setIfInBounds_toArray, List.set_cons_zero, List.set_cons_succ, i64_w, i32_w]
          rfl
        have hfin := HFIN.out
        cases b10 with
        | true =>
          obtain ⟨g, rfl, hg1, hgb⟩ := hI.h10 rfl
          have hbox := blk_below hg1 hB6
          obtain rfl : n = 5 := by simp at hn; omega
          refine pure_ (i := 7) (N := some 27) (v := ?_) (a' := ?_) #[true, true, true, true, true, true, true, true, false, false, true, false, false] rfl rfl (by kernel_rfl) (fun _ _ _ h => h) (Or.inl ⟨by rfl, ?_⟩) ?_ ?_
          rotate_left
          · intro u
            go_simp
            with_reducible rfl
          rotate_left
          · simp only [Act.put, List.setIfInBounds_toArray, List.set_cons_zero, List.set_cons_succ, i64_w, i32_w]
            rfl
          refine pure_ (i := 8) (N := some 35) (v := ?_) (a' := ?_) #[true, true, true, true, true, true, true, true, true, false, true, false, false] rfl rfl (by kernel_rfl) (fun _ _ _ h => h) (Or.inl ⟨by rfl, ?_⟩) ?_ ?_
          rotate_left
          · intro u
            go_simp
            with_reducible rfl
          rotate_left
          · simp only [Act.put, List.setIfInBounds_toArray, List.set_cons_zero, List.set_cons_succ, i64_w, i32_w]
            rfl
          refine pure_ (i := 9) (N := some 36) (v := ?_) (a' := ?_) #[true, true, true, true, true, true, true, true, true, true, true, false, false] rfl rfl (by kernel_rfl) (fun _ _ _ h => h) (Or.inl ⟨by rfl, ?_⟩) ?_ ?_
          rotate_left
          · intro u
            go_simp
            with_reducible rfl
          rotate_left
          · simp only [Act.put, List.setIfInBounds_toArray, List.set_cons_zero, List.set_cons_succ, i64_w, i32_w]
            rfl
          refine pure_ (i := 11) (N := some 7) (v := ?_) (a' := ?_) #[true, true, true, true, true, true, true, true, true, true, true, true, false] rfl rfl (by kernel_rfl) (fun _ _ _ h => h) (Or.inl ⟨by rfl, ?_⟩) ?_ ?_
          rotate_left
          · intro u
            go_simp
            with_reducible rfl
          rotate_left
          · simp only [Act.put, List.setIfInBounds_toArray, List.set_cons_zero, List.set_cons_succ, i64_w, i32_w]
            rfl
          refine one_ (i := 12) (N := none) #[true, true, true, true, true, true, true, true, true, true, true, true, true] rfl rfl (by kernel_rfl) (by decide) (fun K1 hK1 => ?_)
          have d0 : w6.frozen? ⟨g, 0, none⟩ = false := blk_frozen hbox 0
          have d1 : w6.frozen? ⟨g, 1, none⟩ = false := blk_frozen hbox 1
          have d2 : w6.cell? ⟨g, 0, none⟩ = some (.int .i64 0) := (blk_cell hbox 0).trans rfl
          have d3 : w6.cell? ⟨g, 1, none⟩ = some (.string ⟨#[]⟩) := (blk_cell hbox 1).trans rfl
          rw [if_pos (by rfl)]
          go_simp
          have hBS := below_set (below_set HB6.out hgb (v := .int .i64 E2) (j := 0)) hgb (v := .string T2) (j := 1)
          refine hK1.out _ _ (HSS.out _ hBS) (fun _ => ?_)
          refine done_ (by kernel_rfl) ?_
          refine hfin _ _ _ _ ve g _ hBS ?_ (blk_put (blk_put hbox 0 (.int .i64 E2) rfl) 1 (.string T2) rfl) hgb
          exact Kd.R_mono (Kd.R_far (p := ⟨g, 1, none⟩) (Kd.R_far (p := ⟨g, 0, none⟩) (Kd.R_types HR6.out hbox (by decide)) (fun _ hk => hk.2) _) (fun _ hk => hk.2) _) (fun _ _ => trivial)
        | false =>
          obtain rfl : n = 6 := by simp at hn; omega
          refine pure_ (i := 7) (N := some 27) (v := ?_) (a' := ?_) #[true, true, true, true, true, true, true, true, false, false, false, false, false] rfl rfl (by kernel_rfl) (fun _ _ _ h => h) (Or.inl ⟨by rfl, ?_⟩) ?_ ?_
          rotate_left
          · intro u
            go_simp
            with_reducible rfl
          rotate_left
          · simp only [Act.put, List.setIfInBounds_toArray, List.set_cons_zero, List.set_cons_succ, i64_w, i32_w]
            rfl
          refine pure_ (i := 8) (N := some 35) (v := ?_) (a' := ?_) #[true, true, true, true, true, true, true, true, true, false, false, false, false] rfl rfl (by kernel_rfl) (fun _ _ _ h => h) (Or.inl ⟨by rfl, ?_⟩) ?_ ?_
          rotate_left
          · intro u
            go_simp
            with_reducible rfl
          rotate_left
          · simp only [Act.put, List.setIfInBounds_toArray, List.set_cons_zero, List.set_cons_succ, i64_w, i32_w]
            rfl
          refine pure_ (i := 9) (N := some 36) (v := ?_) (a' := ?_) #[true, true, true, true, true, true, true, true, true, true, false, false, false] rfl rfl (by kernel_rfl) (fun _ _ _ h => h) (Or.inl ⟨by rfl, ?_⟩) ?_ ?_
          rotate_left
          · intro u
            go_simp
            with_reducible rfl
          rotate_left
          · simp only [Act.put, List.setIfInBounds_toArray, List.set_cons_zero, List.set_cons_succ, i64_w, i32_w]
            rfl
          refine one_ (i := 10) (N := some 8) #[true, true, true, true, true, true, true, true, true, true, true, false, false] rfl rfl (by kernel_rfl) (by decide) (fun K1 hK1 => ?_)
          refine box_step ?hg (N := 8) ?hd (cs := #[.int .i64 0, .string (⟨#[]⟩ : ByteArray)]) (t := 26) ?hr ?_; (case hd => rfl); (case hg => rfl); (case hr => first | (go_simp; done) | (go_simp; rfl))
          intro g hg w7 hbox hb
          have HB7 := Aside0.mk (below_then HB6.out HB6.out.size hb)
          have HR7 := Aside0.mk (Kd.R_below HR6.out hb)
          have hgb : W.heap.size ≤ g := by have := HB6.out.size; omega
          clear hg
          refine hK1.out _ _ (HSS.out _ HB7.out) (fun _ => ?_)
          refine norm_ (a' := ?_) ?_ ?_
          rotate_left
          · show Act.put _ (some 8) _ = _
            simp only [Act.put, List.setIfInBounds_toArray, List.set_cons_zero, List.set_cons_succ, i64_w, i32_w]
            rfl
          refine pure_ (i := 11) (N := some 7) (v := ?_) (a' := ?_) #[true, true, true, true, true, true, true, true, true, true, true, true, false] rfl rfl (by kernel_rfl) (fun _ _ _ h => h) (Or.inl ⟨by rfl, ?_⟩) ?_ ?_
          rotate_left
          · intro u
            go_simp
            with_reducible rfl
          rotate_left
          · simp only [Act.put, List.setIfInBounds_toArray, List.set_cons_zero, List.set_cons_succ, i64_w, i32_w]
            rfl
          refine one_ (i := 12) (N := none) #[true, true, true, true, true, true, true, true, true, true, true, true, true] rfl rfl (by kernel_rfl) (by decide) (fun K1 hK1 => ?_)
          have d0 : w7.frozen? ⟨g, 0, none⟩ = false := blk_frozen hbox 0
          have d1 : w7.frozen? ⟨g, 1, none⟩ = false := blk_frozen hbox 1
          have d2 : w7.cell? ⟨g, 0, none⟩ = some (.int .i64 0) := (blk_cell hbox 0).trans rfl
          have d3 : w7.cell? ⟨g, 1, none⟩ = some (.string ⟨#[]⟩) := (blk_cell hbox 1).trans rfl
          rw [if_pos (by rfl)]
          go_simp
          have hBS := below_set (below_set HB7.out hgb (v := .int .i64 E2) (j := 0)) hgb (v := .string T2) (j := 1)
          refine hK1.out _ _ (HSS.out _ hBS) (fun _ => ?_)
          refine done_ (by kernel_rfl) ?_
          refine hfin _ _ _ _ ve g _ hBS ?_ (blk_put (blk_put hbox 0 (.int .i64 E2) rfl) 1 (.string T2) rfl) hgb
          exact Kd.R_mono (Kd.R_far (p := ⟨g, 1, none⟩) (Kd.R_far (p := ⟨g, 0, none⟩) (Kd.R_types HR7.out hbox (by decide)) (fun _ hk => hk.2) _) (fun _ hk => hk.2) _) (fun _ _ => trivial)
      · refine wpOp_step rfl (fun K1 hK1 => ?_)
        refine event_step (v := .pointer (some ⟨w'.heap.size, 0, none⟩)) (w1 := w'.alloc (.cells #[.int .i64 0, .string ⟨#[]⟩] 26)) rfl (by first | (go_simp; done) | (go_simp; rfl)) ?_
        have hI2 := hI.step10 hbs
        refine hK1 _ _ ⟨fun _ _ => HSS.out _ hI2.hB, ih _ _ _ ⟨b0, b2, b4, b5, true, v28, v30, v32, v33, _, by simp at hn ⊢; omega, rfl, ?_, hI2⟩⟩
        simp only [Act.put, List.setIfInBounds_toArray, List.set_cons_zero, List.set_cons_succ, i64_w, i32_w]
        rfl
    · refine ⟨false, false, false, false, false, undef, undef, undef, undef, undef, rfl, rfl, rfl, ⟨Below.refl _ _, fun q => absurd q (by simp), fun q => absurd q (by simp), fun q => absurd q (by simp), fun q => absurd q (by simp), fun q => absurd q (by simp), fun q => absurd q (by simp), fun q => absurd q (by simp)⟩⟩
  · have hx0 : (E != 0) = true := by simp [h0]
    have hXn : X = [] := by rw [← hX]; exact allP_bad (by rw [hE]; exact h0)
    have hXl : X.length = 0 := by rw [hXn]; rfl
    rw [hXl]
    go_wp2_with fail
    refine (live_calls _).mono ?_
    rintro e w4 ⟨rfl, hB4⟩
    have HB4 := Aside0.mk (below_then HB3.out HB3.out.size hB4)
    clear hB4 HB3
    go_wp2
    go_ret
    exact ⟨rfl, HB4.out⟩
end Go.Proofs.Ytibkcnlcmempgaa.Res
end
section
namespace Go.Proofs.Ytibkcnlcmempgaa.G
open Go.RowKit Go.Proofs.YtibkcnlcmempgaaW.PrintWords Go.Proofs.YtibkcnlcmempgaaW.PrintLast Go.Proofs.YtibkcnlcmempgaaW.PrintMore
attribute [local go_sem] max2_int min2_int max_two min_two max_three min_three max_four min_four   -- for this text's walks alone
set_option linter.unusedVariables false
set_option linter.unusedSimpArgs false
/-- The law's code answers true. -/
def gangwaylaw18_ResolveMore.f (l0 : List S36) (l1_0 : List S72) (l1_1 : List S38) : Option Bool := if l0.length * 48 ≤ 140737488351232 ∧ Res.smallB (l0 ++ [(⟨l1_0, l1_1⟩ : S36)]) = true then some true else none
theorem gangwaylaw18_ResolveMore.calls (A0 : Option Addr) (c0 : Nat) (l0 : List S36) (A1_0 : Option Addr) (c1_0 : Nat) (l1_0 : List S72) (A1_1 : Option Addr) (c1_1 : Nat) (l1_1 : List S38) (r : Bool) (w : World) (hr0 : Kd.C k36 w A0 l0.length l0) (hc0 : l0.length ≤ c0) (hr1_0 : Kd.C k72 w A1_0 l1_0.length l1_0) (hc1_0 : l1_0.length ≤ c1_0) (hr1_1 : Kd.C k38 w A1_1 l1_1.length l1_1) (hc1_1 : l1_1.length ≤ c1_1) (h : gangwaylaw18_ResolveMore.f l0 l1_0 l1_1 = some r) :
  Calls Try.prog 5 #[.slice A0 l0.length c0, .agg #[.slice A1_0 l1_0.length c1_0, .slice A1_1 l1_1.length c1_1]] w fun e w' => e = .returned (.bool r) ∧ Below w.heap.size w w' := by
 unfold gangwaylaw18_ResolveMore.f at h
 split at h
 case isFalse => cases h
 rename_i hb
 obtain rfl := Option.some.inj h
 exact Res.more_calls A0 c0 l0 A1_0 c1_0 l1_0 A1_1 c1_1 l1_1 w hr0 hc0 hr1_0 hc1_0 hr1_1 hc1_1 hb.1 hb.2
end Go.Proofs.Ytibkcnlcmempgaa.G
end
section
namespace Go.Proofs.Ytibkcnlcmempgaa.Stmt
open Go.RowKit Go.Proofs.Ytibkcnlcmempgaa.G Go.Proofs.YtibkcnlcmempgaaW.PrintWords
set_option linter.unusedVariables false
def wf146 (x : S146) : Prop := ((Lit.int .i64 x.f0).wf = true) ∧ ((Lit.int .i64 x.f1).wf = true) ∧ (x.f2.size ≤ 140737488351232) ∧ ((Lit.int .i64 x.f3).wf = true)
def wt146 (x : S146) : Nat := (1 + (1 + ((x.f2.size + 1) + (1)))) + 1
def wf72 (x : S72) : Prop := (x.f0.size ≤ 140737488351232) ∧ ((Lit.int .i64 x.f1).wf = true) ∧ ((Lit.int .i64 x.f2).wf = true) ∧ ((Lit.int .i64 x.f3).wf = true) ∧ (x.f4.length * 1 ≤ 140737488351232 ∧ x.f4.length ≤ 9223372036854775807 ∧ ∀ y1 ∈ x.f4, (Lit.int .u8 y1).wf = true) ∧ ((Lit.int .i64 x.f5).wf = true) ∧ (x.f6.length * 40 ≤ 140737488351232 ∧ x.f6.length ≤ 9223372036854775807 ∧ ∀ y1 ∈ x.f6, wf146 y1)
def wt72 (x : S72) : Nat := ((x.f0.size + 1) + (1 + (1 + (1 + (((x.f4.map (fun y => 1)).sum + 1) + (1 + (((x.f6.map wt146).sum + 1)))))))) + 1
def wf38 (x : S38) : Prop := (x.f0.size ≤ 140737488351232) ∧ (x.f1.size ≤ 140737488351232) ∧ ((Lit.int .i64 x.f2).wf = true) ∧ ((Lit.int .i64 x.f3).wf = true) ∧ ((Lit.int .i64 x.f4).wf = true) ∧ ((Lit.int .i64 x.f5).wf = true)
def wt38 (x : S38) : Nat := ((x.f0.size + 1) + ((x.f1.size + 1) + (1 + (1 + (1 + (1)))))) + 1
def wf36 (x : S36) : Prop := (x.f0.length * 96 ≤ 140737488351232 ∧ x.f0.length ≤ 9223372036854775807 ∧ ∀ y1 ∈ x.f0, wf72 y1) ∧ (x.f1.length * 64 ≤ 140737488351232 ∧ x.f1.length ≤ 9223372036854775807 ∧ ∀ y1 ∈ x.f1, wf38 y1)
def wt36 (x : S36) : Nat := (((x.f0.map wt72).sum + 1) + (((x.f1.map wt38).sum + 1))) + 1
def ResolveMore : Prop := ∀ (l0 : List (S36)) (a1 : S36), (l0.length * 48 ≤ 140737488351232 ∧ l0.length ≤ 9223372036854775807 ∧ ∀ y1 ∈ l0, wf36 y1) → (wf36 a1) → G.gangwaylaw18_ResolveMore.f l0 a1.f0 a1.f1 = some true
end Go.Proofs.Ytibkcnlcmempgaa.Stmt
end
section
namespace Go.Proofs.Ytibkcnlcmempgaa.Pure
open Go.RowKit Go.Proofs.Ytibkcnlcmempgaa.G Go.Proofs.Ytibkcnlcmempgaa.Stmt Go.Proofs.Ytibkcnlcmempgaa.Res Go.Proofs.YtibkcnlcmempgaaW.PrintWords
theorem ResolveMore : Stmt.ResolveMore := by
  intro l a h ha
  refine if_pos ⟨h.1, ?_⟩
  unfold smallB
  rw [List.all_eq_true]
  intro f hf
  rcases List.mem_append.1 hf with hf | hf
  · have := ((h.2.2 f hf).1).1
    simpa using this
  · obtain rfl := List.mem_singleton.1 hf
    have := ha.1.1
    simpa using this
end Go.Proofs.Ytibkcnlcmempgaa.Pure
end
section
namespace Go.Proofs.Ytibkcnlcmempgaa.Opening
set_option linter.unusedVariables false
set_option linter.unusedSimpArgs false
open Go.ChangeShapes Go.WideShapes Go.Proofs.YtibkcnlcmempgaaW.PrintWords
/-- A datum of type t opens as a value of kind d: it is well (wf), and its bulk is at least its weight (wt). -/
structure Opens {α : Type} (P : Program) (t : TypeId) (d : Kd α) (wf : α → Prop) (wt : α → Nat) : Prop where
  cells : P.cellsOf t = d.sz
  op : ∀ {H : Type} {enc : TypeId × Value → H} {w : World} {base : Nat} {spare : Nat → Bool} {held : Bool} {fuel : Nat} {cs : List Value} {x : DataW H × List MemPlace},
    DataW.trod enc P w base spare held fuel t cs = some x → (∀ n ∈ x.1.weights P t, n ≤ 140737488351232) → ∃ a : α, d.K w a cs ∧ wf a ∧ wt a ≤ Rows.uptoBulk x.1
theorem opens_int {P : Program} {t : TypeId} (k : IntKind) (ht : P.underlying t = some (.int k)) (hc : P.cellsOf t = 1) : Opens P t (Kd.int k) (fun a => (Lit.int k a).wf = true) (fun _ => 1) :=
  ⟨hc, fun h _ => by
    obtain ⟨n, rfl, rfl, hw⟩ := DataW.trod_int ht h
    exact ⟨n, rfl, hw, by simp [Rows.uptoBulk]⟩⟩
theorem opens_string {P : Program} {t : TypeId} (ht : P.underlying t = some .string) (hc : P.cellsOf t = 1) : Opens P t Kd.string (fun a => a.size ≤ 140737488351232) (fun a => a.size + 1) :=
  ⟨hc, fun h hz => by
    obtain ⟨s, rfl, rfl, _⟩ := DataW.trod_string ht h
    have e : s.data.toList.length = s.size := by rw [Array.length_toList]; rfl
    refine ⟨s, rfl, ?_, by simp only [Rows.uptoBulk]; omega⟩
    rw [← e]
    exact hz _ (by simp [DataW.weights])⟩
theorem list_of {α : Type} {p : Nat → α → Prop} : ∀ {n : Nat}, (∀ i, i < n → ∃ a, p i a) → ∃ l : List α, l.length = n ∧ ∀ i (h : i < l.length), p i l[i]
  | 0, _ => ⟨[], rfl, fun i h => absurd h (Nat.not_lt_zero _)⟩
  | n + 1, h => by
    obtain ⟨l, hl, hp⟩ := list_of (n := n) (fun i hi => h i (Nat.lt_succ_of_lt hi))
    obtain ⟨a, ha⟩ := h n (Nat.lt_succ_self n)
    refine ⟨l ++ [a], by simp [hl], fun i hi => ?_⟩
    by_cases hlt : i < l.length
    · rw [List.getElem_append_left hlt]
      exact hp i hlt
    · have e : i = n := by simp at hi; omega
      subst e
      rw [List.getElem_append_right (by omega)]
      simpa [hl] using ha
theorem bulk_all {α H : Type} {wt : α → Nat} : ∀ {l : List α} {ds : List (DataW H)}, l.length ≤ ds.length → (∀ i (h : i < l.length) d, ds[i]? = some d → wt l[i] ≤ Rows.uptoBulk d) → (l.map wt).sum ≤ Rows.uptoBulkAll ds
  | [], _, _, _ => by simp
  | a :: l, [], h, _ => by simp at h
  | a :: l, d :: ds, h, hw => by
    have h0 := hw 0 (by simp) d rfl
    have h1 := bulk_all (l := l) (ds := ds) (by simpa using h) (fun i hi d' hd' => hw (i + 1) (by simpa using hi) d' (by simpa using hd'))
    simp only [List.map_cons, List.sum_cons, Rows.uptoBulkAll]
    simp at h0
    omega
theorem weights_all {H : Type} {P : Program} {e : TypeId} : ∀ {ds : List (DataW H)} {d : DataW H}, d ∈ ds → ∀ n ∈ d.weights P e, n ∈ DataW.weightsAll P e ds
  | d0 :: ds, d, h, n, hn => by
    simp only [DataW.weightsAll, List.mem_append]
    cases List.mem_cons.1 h with
    | inl e => subst e; exact .inl hn
    | inr e => exact .inr (weights_all e n hn)
theorem opens_slice {α : Type} {P : Program} {t e : TypeId} {d : Kd α} {wf : α → Prop} {wt : α → Nat} {b : Nat} (ho : Opens P e d wf wt) (ht : P.underlying t = some (.slice e)) (hc : P.cellsOf t = 1) (hb : P.bytesOf e = b) :
    Opens P t (Kd.slice e d) (fun l => l.length * b ≤ 140737488351232 ∧ l.length ≤ 9223372036854775807 ∧ ∀ a ∈ l, wf a) (fun l => (l.map wt).sum + 1) :=
  ⟨hc, fun {H enc w base spare held fuel cs x} h hz => by
    subst hb
    rcases DataW.trod_slice ht h with ⟨rfl, rfl⟩ | ⟨a, len, cap, elems, rest, n, _, rfl, rfl, hb, hl, hm, hlen, hel, hsp, hns⟩
    · exact ⟨[], ⟨none, 0, rfl, Nat.le_refl _, Kd.C_nil d w⟩, ⟨by simp, by simp, by simp⟩, by simp [Rows.uptoBulk]⟩
    · have hm' : cap ≤ 9223372036854775807 := hm
      have hz1 : (elems.length + rest.length) * P.bytesOf e ≤ 140737488351232 := hz _ (by simp [DataW.weights, ht])
      have hz2 : ∀ y ∈ elems, ∀ n ∈ y.1.weights P e, n ≤ 140737488351232 := fun y hy n hn => hz _ (by
        simp only [DataW.weights, ht, List.mem_cons, List.mem_append]
        exact .inr (.inl (weights_all (List.mem_map.2 ⟨y, hy, rfl⟩) n hn)))
      have each : ∀ i, i < len → ∃ a' : α, (∃ cs' y, w.cells? base (a.add (i * P.cellsOf e)) (P.cellsOf e) = some cs' ∧ d.K w a' cs' ∧ elems[i]? = some y ∧ wt a' ≤ Rows.uptoBulk y.1) ∧ wf a' := fun i hi => by
        have h1 := hel i hi
        rw [List.getElem?_eq_getElem (by omega)] at h1
        obtain ⟨cs', h2, h3⟩ := Option.bind_eq_some_iff.1 h1
        obtain ⟨a', k1, k2, k3⟩ := ho.op h3 (hz2 _ (List.getElem_mem _))
        exact ⟨a', ⟨cs', _, h2, k1, List.getElem?_eq_getElem (by omega), k3⟩, k2⟩
      obtain ⟨l, hl1, hl2⟩ := list_of each
      subst hl1
      refine ⟨l, ⟨some a, cap, rfl, hl, rfl, by omega, fun _ => ⟨a, rfl, fun j p hp => ?_⟩⟩, ⟨?_, by omega, fun a' ha' => ?_⟩, ?_⟩
      · obtain ⟨hj, rfl⟩ := List.getElem?_eq_some_iff.1 hp
        obtain ⟨⟨cs', y, h2, k1, _, _⟩, _⟩ := hl2 j hj
        obtain ⟨_, hcl, hcell⟩ := World.cells?_some h2
        refine ⟨cs', by rw [hcl, ho.cells], k1, fun i u hu => ?_⟩
        have hi : i < P.cellsOf e := by rw [← hcl]; exact (List.getElem?_eq_some_iff.1 hu).1
        have := hcell i hi
        rw [hu, ho.cells] at this
        rw [← this]
        congr 1
        unfold Addr.add
        by_cases hi0 : i = 0 <;> by_cases hj0 : j * d.sz = 0 <;> simp [hi0, hj0, Nat.add_assoc]
      · refine Nat.le_trans (Nat.mul_le_mul_right _ ?_) hz1
        omega
      · obtain ⟨j, hj, rfl⟩ := List.getElem_of_mem ha'
        exact (hl2 j hj).2
      · have := bulk_all (l := l) (ds := elems.map (·.1)) (wt := wt) (by simp; omega) (fun i hi dd hd => by
          obtain ⟨⟨_, y, _, _, hy, hw⟩, _⟩ := hl2 i hi
          rw [List.getElem?_map, hy] at hd
          simp at hd
          subst hd
          exact hw)
        simp only [Rows.uptoBulk]
        omega⟩
/-- The fields from one on, whose cells begin at off. -/
def OpensF {α : Type} (P : Program) (fs : List Field) (off : Nat) (d : Kd α) (wf : α → Prop) (wt : α → Nat) : Prop :=
  (∃ f r, fs = f :: r ∧ f.offset = off) ∧
  ∀ {H : Type} {enc : TypeId × Value → H} {w : World} {base : Nat} {spare : Nat → Bool} {held : Bool} {fuel : Nat} {cs : List Value} {xs : List (DataW H × List MemPlace)},
    cs.length = d.sz → xs.length = fs.length → (∀ (i : Nat) (f : Field), fs[i]? = some f → DataW.trod enc P w base spare held fuel f.type ((cs.drop (f.offset - off)).take (P.cellsOf f.type)) = xs[i]? ∧ off ≤ f.offset) →
    (∀ n ∈ DataW.weightsEach P (fs.map (·.type)) (xs.map (·.1)), n ≤ 140737488351232) → ∃ a : α, d.K w a cs ∧ wf a ∧ wt a ≤ Rows.uptoBulkAll (xs.map (·.1))
theorem opensF_one {α : Type} {P : Program} {f : Field} {off : Nat} {d : Kd α} {wf : α → Prop} {wt : α → Nat} (ho : Opens P f.type d wf wt) (hf : f.offset = off) : OpensF P [f] off d wf wt :=
  ⟨⟨f, [], rfl, hf⟩, fun {H enc w base spare held fuel cs xs} hc hx h hz => by
    match xs, hx with
    | [x], _ =>
      have h1 := (h 0 f rfl).1
      rw [hf, Nat.sub_self, List.drop_zero, ho.cells, List.take_of_length_le (by omega)] at h1
      obtain ⟨a, k1, k2, k3⟩ := ho.op (x := x) (by simpa using h1) (fun n hn => hz n (by simp [DataW.weightsEach, hn]))
      exact ⟨a, k1, k2, by simpa [Rows.uptoBulkAll] using k3⟩⟩
theorem opensF_cons {α β : Type} {P : Program} {f : Field} {fs : List Field} {off : Nat} {a : Kd α} {b : Kd β} {wfa : α → Prop} {wta : α → Nat} {wfb : β → Prop} {wtb : β → Nat} (ho : Opens P f.type a wfa wta) (hf : f.offset = off)
    (hr : OpensF P fs (off + a.sz) b wfb wtb) (hge : ∀ g ∈ fs, off + a.sz ≤ g.offset) : OpensF P (f :: fs) off (Kd.pair a b) (fun x => wfa x.1 ∧ wfb x.2) (fun x => wta x.1 + wtb x.2) :=
  ⟨⟨f, fs, rfl, hf⟩, fun {H enc w base spare held fuel cs xs} hc hx h hz => by
    match xs, hx with
    | x :: xs, hx =>
      have hc' : cs.length = a.sz + b.sz := hc
      have h1 := (h 0 f rfl).1
      rw [hf, Nat.sub_self, List.drop_zero, ho.cells] at h1
      obtain ⟨u, k1, k2, k3⟩ := ho.op (x := x) (by simpa using h1) (fun n hn => hz n (by simp [DataW.weightsEach, hn]))
      obtain ⟨v, j1, j2, j3⟩ := hr.2 (cs := cs.drop a.sz) (xs := xs) (by simp; omega) (by simpa using hx) (fun i g hg => by
        obtain ⟨h2, h3⟩ := h (i + 1) g (by simpa using hg)
        have h4 := hge g (List.mem_of_getElem? hg)
        refine ⟨?_, h4⟩
        rw [List.drop_drop, show a.sz + (g.offset - (off + a.sz)) = g.offset - off from by omega]
        simpa using h2) (fun n hn => hz n (by simp [DataW.weightsEach, hn]))
      refine ⟨(u, v), ⟨cs.take a.sz, cs.drop a.sz, (List.take_append_drop _ _).symm, k1, j1⟩, ⟨k2, j2⟩, ?_⟩
      simp only [List.map_cons, Rows.uptoBulkAll]
      omega⟩
theorem opens_struct {α β : Type} {P : Program} {t : TypeId} {fs : Array Field} {d : Kd α} {wf : α → Prop} {wt : α → Nat} (f : β → α) (g : α → β) (hfg : ∀ a, f (g a) = a) (ht : P.underlying t = some (.struct fs)) (hc : P.cellsOf t = d.sz)
    (ho : OpensF P fs.toList 0 d wf wt) : Opens P t (Kd.iso d f) (fun x => wf (f x)) (fun x => wt (f x) + 1) :=
  ⟨hc, fun {H enc w base spare held fuel cs x} h hz => by
    obtain ⟨xs, n, _, rfl, hl, hxl, hx⟩ := DataW.trod_struct ht h
    obtain ⟨a, k1, k2, k3⟩ := ho.2 (cs := cs) (xs := xs) (by rw [hl, hc]) (by simpa using hxl) (fun i fd hfd => ⟨by
      have := hx i fd (by simpa using hfd)
      simpa using this, Nat.zero_le _⟩) (fun m hm => hz m (by simpa [DataW.weights, ht] using hm))
    refine ⟨g a, ?_, ?_, ?_⟩
    · show d.K w (f (g a)) cs
      rw [hfg]
      exact k1
    · rw [hfg]
      exact k2
    · rw [hfg]
      simp only [Rows.uptoBulk]
      omega⟩
/-- The size of each part, out of the row's own reach. -/
theorem weights_of {H : Type} {P : Program} {ts : List TypeId} {ds : List (DataW H)} (h : (DataW.weightsEach P ts ds).all (· ≤ reachBytes) = true) {j : Nat} {t : TypeId} {d : DataW H} (ht : ts[j]? = some t) (hd : ds[j]? = some d) : ∀ n ∈ d.weights P t, n ≤ 140737488351232 := fun n hn => by
  have := List.all_eq_true.1 h _ (DataW.weights_mem_each ht hd n hn)
  exact of_decide_eq_true this
end Go.Proofs.Ytibkcnlcmempgaa.Opening
end
