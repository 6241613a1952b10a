/- What each statement on frame rules asks first: rows of a usual beginning. -/
import Derived.Test.YtngddlihppomhaaCfaFind
import Derived.Test.YtngddlihppomhaaGfM
namespace Go.Proofs.Ytngddlihppomhaa.Cfa
set_option linter.unusedVariables false
set_option linter.unusedSimpArgs false
open Go.RowKit Go.Proofs.Ytngddlihppomhaa.G Go.Proofs.YtngddlihppomhaaW.PrintWords Go.Proofs.YtngddlihppomhaaW.PrintLast Go.Proofs.YtngddlihppomhaaW.PrintMore

def kOps : List S40 := [⟨1, 0, 1⟩, ⟨3, 0, 16⟩]
def kUs : List S40 := [⟨2, 7, 8⟩, ⟨5, 16, -8⟩]
def kRow0 : Row := [0, 7, 8] ++ List.replicate 32 0 ++ [2, -8]
def kRow1 : Row := [1, 7, 16] ++ List.replicate 32 0 ++ [2, -8]
theorem k_rows : rowsOf (opl kUs) (opl kOps) 20 = ([kRow0, kRow1], 0) := by decide +kernel
theorem k_found : found [kRow0, kRow1] 5 = (kRow1, true) := by decide +kernel
def cells3 (o : S40) : List Value := [.int .i64 o.f0, .int .i64 o.f1, .int .i64 o.f2]
theorem flat3 : ∀ (l : List S40) (j i : Nat) (p : S40), l[j]? = some p → i < 3 → (l.flatMap cells3)[j * 3 + i]? = (cells3 p)[i]?
  | [], j, i, p, h, _ => by simp at h
  | o :: l, 0, i, p, h, hi => by
    simp only [List.getElem?_cons_zero, Option.some.injEq] at h
    subst h
    rw [List.flatMap_cons, Nat.zero_mul, Nat.zero_add, List.getElem?_append_left (by simpa [cells3] using hi)]
  | o :: l, j + 1, i, p, h, hi => by
    rw [List.getElem?_cons_succ] at h
    rw [List.flatMap_cons, List.getElem?_append_right (by simp [cells3]; omega), show (cells3 o).length = 3 from rfl, show (j + 1) * 3 + i - 3 = j * 3 + i from by omega]
    exact flat3 l j i p h hi
theorem C_ops {w : World} {b : Nat} {e : TypeId} {l : List S40} (hb : w.heap[b]? = some (.cells (l.flatMap cells3).toArray e (0, 0))) (hl : l.length ≤ 9223372036854775807) : Kd.C k40 w (some ⟨b, 0, none⟩) l.length l := by
  refine ⟨rfl, hl, fun _ => ⟨_, rfl, fun j p hj => ⟨cells3 p, rfl, k40_mk w p, fun i u hi => ?_⟩⟩⟩
  have hi3 : i < 3 := (List.getElem?_eq_some_iff.1 hi).1
  rw [add_plain, show k40.sz = 3 from rfl, blk_cell hb, List.getElem?_toArray, flat3 l j i p hj hi3]
  exact hi
set_option maxRecDepth 100000 in
theorem knows_calls (w : World) : Calls Try.prog 13 #[] w fun e w' => e = .returned (.bool true) ∧ Below w.heap.size w w' := by
  go_enter Try.func13, Try.ntmps13
  go_wp2_with fail
  refine (cfa_Usual.calls kUs _ rfl).mono ?_
  rintro e w1 ⟨v0, rfl, hu, hb1⟩
  obtain ⟨A0, c0, rfl⟩ := Kd.R_slice hu
  have HU := Aside0.mk hu
  have HB1 := Aside0.mk hb1
  clear hu hb1
  go_wp2_with fail
  have hC0 := (Kd.R_reads' (Kd.R_below HU.out (below_alloc (Below.refl _ _) (.cells #[.int .i64 1, .int .i64 0, .int .i64 1, .int .i64 3, .int .i64 0, .int .i64 16] 40)))).2.2
  have hC1 := C_ops (l := kOps) (blk_new w1 (.cells #[.int .i64 1, .int .i64 0, .int .i64 1, .int .i64 3, .int .i64 0, .int .i64 16] 40)) (by decide)
  have hc := rows_calls A0 c0 kUs (some ⟨w1.heap.size, 0, none⟩) 2 kOps 20 _ hC0 hC1
  rw [k_rows] at hc
  clear hC0 hC1
  refine hc.mono ?_
  clear hc
  rintro e w2 ⟨v2, rfl, hr, hb2⟩
  have HR := Aside0.mk hr
  have HB2 := Aside0.mk (below_step (below_alloc HB1.out _) hb2)
  obtain ⟨A2, c2, rfl⟩ := Kd.R_slice hr
  have hA2 : ∃ ad, A2 = some ad := by
    obtain ⟨ad, e, _⟩ := (Kd.R_reads' hr).2.2.2.2 (by simp)
    exact ⟨ad, e⟩
  obtain ⟨ad, rfl⟩ := hA2
  obtain ⟨g, rfl⟩ := Kd.R_head hr
  clear hr hb2
  simp only [List.length_cons, List.length_nil, Nat.zero_add, Nat.reduceAdd] at HR
  simp only [List.length_cons, List.length_nil, Nat.zero_add, Nat.reduceAdd]
  go_wp2_with fail
  have hf := find_calls (.slice (some ⟨g, 0, none⟩) 2 c2) _ 5 _ _ _ HR.out (by decide)
  rw [k_found] at hf
  refine hf.mono ?_
  clear hf
  rintro e w3 ⟨rfl, hb3⟩
  have HR3 := Aside0.mk (Kd.R_below HR.out hb3)
  have HB3 := Aside0.mk (below_step HB2.out hb3)
  clear hb3 HB2 HR
  have hl37 : kRow1.length = 37 := by decide
  have hbx := box_new (tr := 35) (w := w3) (g := w3.heap.size) rfl hl37
  have HTH := Aside0.mk (there_row (blk_new w3 (.cells (nums .i64 zrow).toArray 35)) zrow_len)
  have hr4 := Kd.R_below HR3.out hbx.2
  have HB4 := Aside0.mk (below_step HB3.out hbx.2)
  obtain ⟨l, hl, hl2, hra⟩ := rd_row hr4 0 (by decide)
  simp only [List.getElem?_cons_zero, Option.some.injEq] at hl
  subst hl
  have f0 : ((w3.alloc (.cells (nums .i64 zrow).toArray 35)).setCells w3.heap.size 0 (nums .i64 kRow1)).cell? ⟨w3.heap.size, 0, none⟩ = some (.int .i64 1) := by rw [blk_cell hbx.1]; rfl
  have f1 : ((w3.alloc (.cells (nums .i64 zrow).toArray 35)).setCells w3.heap.size 0 (nums .i64 kRow1)).cell? ⟨w3.heap.size, 1, none⟩ = some (.int .i64 7) := by rw [blk_cell hbx.1]; rfl
  have f2 : ((w3.alloc (.cells (nums .i64 zrow).toArray 35)).setCells w3.heap.size 0 (nums .i64 kRow1)).cell? ⟨w3.heap.size, 2, none⟩ = some (.int .i64 16) := by rw [blk_cell hbx.1]; rfl
  have f3 : ((w3.alloc (.cells (nums .i64 zrow).toArray 35)).setCells w3.heap.size 0 (nums .i64 kRow1)).cell? ⟨g, 2, none⟩ = some (.int .i64 8) := hra 2 _ rfl
  clear hbx hr4 hra hl2
  clear HR3
  generalize kRow1 = r1 at *
  simp only []
  go_wp2_with (first
    | (refine alloc_rowW rowTy rfl rfl ?_)
    | (refine store_rowW rowTy rfl (.tmp 3) (.tmp 16) rfl w3.heap.size 0 r1 hl37 rfl rfl HTH.out ?_)
    | ((with_reducible refine (gangwaylaw13_num.calls 0 0 _ rfl).mono ?_); rintro e w5 ⟨rfl, ⟨n5, rfl⟩⟩))
  go_ret
  exact ⟨rfl, pw_below_drewN HB4.out _⟩
end Go.Proofs.Ytngddlihppomhaa.Cfa
