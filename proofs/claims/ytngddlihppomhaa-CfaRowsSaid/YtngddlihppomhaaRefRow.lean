/- cfa.Check, and the law's look at two rows. -/
import Derived.Test.YtngddlihppomhaaRefFind
import Derived.Test.YtngddlihppomhaaCfaEq
namespace Go.Proofs.Ytngddlihppomhaa.CfaR
set_option linter.unusedVariables false
set_option linter.unusedSimpArgs false
open Go.RowKit Go.Proofs.Ytngddlihppomhaa.G Go.Proofs.YtngddlihppomhaaW.PrintWords Go.Proofs.YtngddlihppomhaaW.PrintLast Go.Proofs.YtngddlihppomhaaW.PrintMore Go.Proofs.Ytngddlihppomhaa.Cfa
set_option maxRecDepth 100000 in
theorem check_calls (A0 : Option Addr) (c0 : Nat) (l0 : List S40) (A1 : Option Addr) (c1 : Nat) (l1 : List S40) (size : Int) (w : World) (hr0 : Kd.C k40 w A0 l0.length l0) (hr1 : Kd.C k40 w A1 l1.length l1) (R : List Row × Int) (hR : rowsOf (opl l0) (opl l1) size = R) :
    Calls Try.prog 16 #[.slice A0 l0.length c0, .slice A1 l1.length c1, .int .i64 size] w fun e w' => e = .returned (.int .i64 R.2) ∧ Below w.heap.size w w' := by
  have hc := Cfa.rows_calls A0 c0 l0 A1 c1 l1 size w hr0 hr1
  rw [hR] at hc
  have HC := Aside0.mk hc
  clear hc hR hr0 hr1
  go_enter Try.func16, Try.ntmps16
  go_wp2_with fail
  refine HC.out.mono ?_
  rintro e w1 ⟨v, rfl, hv, hw1⟩
  clear hv HC
  simp only []
  go_wp2
  go_ret
  exact ⟨rfl, hw1⟩
set_option maxRecDepth 100000 in
theorem same_row (l : Row) (hl : l.length = 37) (w : World) : Calls Try.prog 18 #[.agg (nums .i64 l).toArray, .agg (nums .i64 l).toArray] w fun e w' => e = .returned (.bool true) ∧ Below w.heap.size w w' := by
  have HL := Aside0.mk hl
  have hsz : (w.alloc (.cells (nums .i64 l).toArray 35)).heap.size = w.heap.size + 1 := by simp
  have hY0 := blk_new (w.alloc (.cells (nums .i64 l).toArray 35)) (.cells (nums .i64 l).toArray 53)
  rw [hsz] at hY0
  have HX := Aside0.mk (blk_alloc (blk_new w (.cells (nums .i64 l).toArray 35)) (.cells (nums .i64 l).toArray 53))
  have HY := Aside0.mk hY0
  have HB := Aside0.mk (below_alloc (below_alloc (Below.refl w.heap.size w) (.cells (nums .i64 l).toArray 35)) (.cells (nums .i64 l).toArray 53))
  clear hl hsz hY0
  generalize hN : (nums .i64 l).toArray = N at HX HY HB ⊢
  have HN := Aside0.mk hN
  clear hN
  go_enter Try.func18, Try.ntmps18
  go_wp2
  generalize ((w.alloc (.cells N 35)).alloc (.cells N 53)) = w1 at *
  go_loopg [5] 17 (fun kq i w' => ∃ n : Nat, n + kq = 17 ∧ i = .int .i64 (n : Int) ∧ Aside0 (w'.heap[w.heap.size]? = some (.cells N 35 (0, 0))) ∧ Aside0 (w'.heap[w.heap.size + 1]? = some (.cells N 53 (0, 0))) ∧ Aside0 (Below w.heap.size w w'))
  case atStart => exact ⟨0, rfl, rfl, HX, HY, HB⟩
  case round =>
    clear HX HY HB
    obtain ⟨n, hn, rfl, HX, HY, HB⟩ := hrel
    cases gk with
    | zero =>
      have hltb : decide ((n : Int) < 17) = false := decide_eq_false (by omega)
      have a0 : wr.cell? ⟨w.heap.size, 0, none⟩ = some (.int .i64 (l.getD 0 0)) := by rw [blk_cell HX.out, ← HN.out, List.getElem?_toArray, nums_get (by rw [HL.out]; decide)]
      have a1 : wr.cell? ⟨w.heap.size, 1, none⟩ = some (.int .i64 (l.getD 1 0)) := by rw [blk_cell HX.out, ← HN.out, List.getElem?_toArray, nums_get (by rw [HL.out]; decide)]
      have a2 : wr.cell? ⟨w.heap.size, 2, none⟩ = some (.int .i64 (l.getD 2 0)) := by rw [blk_cell HX.out, ← HN.out, List.getElem?_toArray, nums_get (by rw [HL.out]; decide)]
      have b0 : wr.cell? ⟨w.heap.size + 1, 0, none⟩ = some (.int .i64 (l.getD 0 0)) := by rw [blk_cell HY.out, ← HN.out, List.getElem?_toArray, nums_get (by rw [HL.out]; decide)]
      have b1 : wr.cell? ⟨w.heap.size + 1, 1, none⟩ = some (.int .i64 (l.getD 1 0)) := by rw [blk_cell HY.out, ← HN.out, List.getElem?_toArray, nums_get (by rw [HL.out]; decide)]
      have b2 : wr.cell? ⟨w.heap.size + 1, 2, none⟩ = some (.int .i64 (l.getD 2 0)) := by rw [blk_cell HY.out, ← HN.out, List.getElem?_toArray, nums_get (by rw [HL.out]; decide)]
      generalize l.getD 0 0 = x0 at a0 b0
      generalize l.getD 1 0 = x1 at a1 b1
      generalize l.getD 2 0 = x2 at a2 b2
      go_wp2
      go_ret
      exact ⟨rfl, HB.out⟩
    | succ gk =>
      have hltb : decide ((n : Int) < 17) = true := decide_eq_true (by omega)
      have hn16 : n ≤ 16 := by omega
      have hw1 := wrapN (show n < 17 from by omega) (by decide)
      have hix := Cfa.rule_at w.heap.size 3 n hn16
      have hiy := rule_at (w.heap.size + 1) 3 n hn16
      have a0 : wr.cell? ⟨w.heap.size, 3 + n * 2, none⟩ = some (.int .i64 (l.getD (3 + n * 2) 0)) := by rw [blk_cell HX.out, ← HN.out, List.getElem?_toArray, nums_get (by rw [HL.out]; omega)]
      have a1 : wr.cell? ⟨w.heap.size, 3 + n * 2 + 1, none⟩ = some (.int .i64 (l.getD (3 + n * 2 + 1) 0)) := by rw [blk_cell HX.out, ← HN.out, List.getElem?_toArray, nums_get (by rw [HL.out]; omega)]
      have b0 : wr.cell? ⟨w.heap.size + 1, 3 + n * 2, none⟩ = some (.int .i64 (l.getD (3 + n * 2) 0)) := by rw [blk_cell HY.out, ← HN.out, List.getElem?_toArray, nums_get (by rw [HL.out]; omega)]
      have b1 : wr.cell? ⟨w.heap.size + 1, 3 + n * 2 + 1, none⟩ = some (.int .i64 (l.getD (3 + n * 2 + 1) 0)) := by rw [blk_cell HY.out, ← HN.out, List.getElem?_toArray, nums_get (by rw [HL.out]; omega)]
      generalize l.getD (3 + n * 2) 0 = x0 at a0 b0
      generalize l.getD (3 + n * 2 + 1) 0 = x1 at a1 b1
      go_wp2
      go_quiet (fail)
      go_wp2
      go_roundg gk
      case measure => omega
      case rel => exact ⟨n + 1, by omega, by go_num, ⟨blk_below HX.out (pw_below_drewN (Below.refl _ _) _)⟩, ⟨blk_below HY.out (pw_below_drewN (Below.refl _ _) _)⟩, ⟨pw_below_drewN HB.out _⟩⟩
end Go.Proofs.Ytngddlihppomhaa.CfaR
