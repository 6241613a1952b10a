/- The program's reader of frame rules in memory: what its methods do. -/
import Derived.Test.YtngddlihppomhaaGfM
import Derived.Test.YtngddlihppomhaaCfaTab
namespace Go.Proofs.Ytngddlihppomhaa.CfaRd
set_option linter.unusedVariables false
set_option linter.unusedSimpArgs false
open Go.RowKit Go.Proofs.Ytngddlihppomhaa.G Go.Proofs.YtngddlihppomhaaW.PrintWords Go.Proofs.YtngddlihppomhaaW.PrintLast Go.Proofs.YtngddlihppomhaaW.PrintMore Go.Proofs.Ytngddlihppomhaa.Cfa
/-- A reader in block g. -/
def Rd (w : World) (g : Nat) (A : Option Addr) (n c : Nat) (at_ : Int) (bad : Bool) : Prop := w.heap[g]? = some (.cells #[.slice A n c, .int .i64 at_, .bool bad] 85 (0, 0))
theorem rd_put {w : World} {g : Nat} {A : Option Addr} {n c : Nat} {at_ : Int} {bad : Bool} (h : Rd w g A n c at_ bad) (v : Bool) (en : Int) : Rd ((w.setCell ⟨g, 2, none⟩ (.bool v)).setCell ⟨g, 1, none⟩ (.int .i64 en)) g A n c en v := by
  have h1 : (w.setCell ⟨g, 2, none⟩ (.bool v)).heap[g]? = some (.cells #[.slice A n c, .int .i64 at_, .bool v] 85 (0, 0)) := blk_put h 2 _ (by rfl)
  exact blk_put h1 1 _ (by rfl)
set_option maxRecDepth 100000 in
theorem uleb_calls (w0 w : World) (g : Nat) (A : Option Addr) (c : Nat) (l : List Int) (hC : Kd.C (Kd.int .u8) w0 A l.length l) (hc : l.length ≤ c) (hB : Below w0.heap.size w0 w) (hg : w0.heap.size ≤ g) (at_ : Int) (bad : Bool) (h : Rd w g A l.length c at_ bad) (n en er : Int) (hr : leb_ReadUleb.f l at_ = some (n, en, er)) :
    Calls Try.prog 47 #[.pointer (some ⟨g, 0, none⟩)] w fun e w' => e = .returned (.int .i64 n) ∧ Below w0.heap.size w0 w' ∧ Rd w' g A l.length c en (bad || er != 0) ∧ w.grownBy w' (some g) := by
  have HC := Aside0.mk hC
  have HB := Aside0.mk hB
  have HG := Aside0.mk hg
  have HR := Aside0.mk hr
  have H := Aside0.mk h
  have HCC := Aside0.mk hc
  have f0 : w.cell? ⟨g, 0, none⟩ = some (.slice A l.length c) := (blk_cell h 0).trans rfl
  have f1 : w.cell? ⟨g, 1, none⟩ = some (.int .i64 at_) := (blk_cell h 1).trans rfl
  clear hC hc hB hg h hr
  go_enter Try.func47, Try.ntmps47
  go_wp2
  refine start_ (n := 16) (S := fun u => u.cell? ⟨g, 0, none⟩ = some (.slice A l.length c) ∧ u.cell? ⟨g, 1, none⟩ = some (.int .i64 at_)) (ds := [8]) #[false, false, false, false, false, false, false, false, false, false, false, false, false, false, false, false] (by kernel_rfl) rfl rfl ?_ (fun hHeld => ?_)
  case refine_1 => exact ⟨by go_simp, by go_simp⟩
  refine pure_ (i := 0) (N := some 7) (v := ?_) (a' := ?_) #[true, false, false, false, false, false, false, false, false, false, false, false, false, false, false, false] rfl rfl (by kernel_rfl) (fun _ _ _ h => h) (Or.inl ⟨by rfl, ?_⟩) ?_ ?_
  rotate_left
  · intro u
    go_simp
    with_reducible rfl
  rotate_left
  · simp only [Act.put, List.setIfInBounds_toArray, List.set_cons_zero, List.set_cons_succ, i64_w, i32_w]
    rfl
  refine pure_ (i := 1) (N := some 8) (v := ?_) (a' := ?_) #[true, true, false, false, false, false, false, false, false, false, false, false, false, false, false, false] rfl rfl (by kernel_rfl) (fun _ _ _ h => h) (Or.inl ⟨by rfl, ?_⟩) ?_ ?_
  rotate_left
  · intro u
    go_simp
    with_reducible rfl
  rotate_left
  · simp only [Act.put, List.setIfInBounds_toArray, List.set_cons_zero, List.set_cons_succ, i64_w, i32_w]
    rfl
  refine pure_ (i := 2) (N := some 9) (v := ?_) (a' := ?_) #[true, true, true, false, false, false, false, false, false, false, false, false, false, false, false, false] rfl rfl (by kernel_rfl) (fun _ _ _ h => h) (Or.inl ⟨by rfl, ?_⟩) ?_ ?_
  rotate_left
  · intro u
    go_simp
    with_reducible rfl
  rotate_left
  · simp only [Act.put, List.setIfInBounds_toArray, List.set_cons_zero, List.set_cons_succ, i64_w, i32_w]
    rfl
  refine take_ (i := 3) (N := some 10) (v := ?_) (a' := ?_) #[true, true, true, true, false, false, false, false, false, false, false, false, false, false, false, false] rfl rfl (by kernel_rfl) (fun _ _ _ h => h) (Or.inl ⟨by rfl, ?_⟩) hHeld ?_ ?_
  rotate_left
  · rintro u ⟨s0, s1⟩
    go_simp
    with_reducible rfl
  rotate_left
  · simp only [Act.put, List.setIfInBounds_toArray, List.set_cons_zero, List.set_cons_succ, i64_w, i32_w]
    rfl
  refine pure_ (i := 4) (N := some 11) (v := ?_) (a' := ?_) #[true, true, true, true, true, false, false, false, false, false, false, false, false, false, false, false] rfl rfl (by kernel_rfl) (fun _ _ _ h => h) (Or.inl ⟨by rfl, ?_⟩) ?_ ?_
  rotate_left
  · intro u
    go_simp
    with_reducible rfl
  rotate_left
  · simp only [Act.put, List.setIfInBounds_toArray, List.set_cons_zero, List.set_cons_succ, i64_w, i32_w]
    rfl
  refine pure_ (i := 5) (N := some 12) (v := ?_) (a' := ?_) #[true, true, true, true, true, true, false, false, false, false, false, false, false, false, false, false] rfl rfl (by kernel_rfl) (fun _ _ _ h => h) (Or.inl ⟨by rfl, ?_⟩) ?_ ?_
  rotate_left
  · intro u
    go_simp
    with_reducible rfl
  rotate_left
  · simp only [Act.put, List.setIfInBounds_toArray, List.set_cons_zero, List.set_cons_succ, i64_w, i32_w]
    rfl
  refine pure_ (i := 6) (N := some 13) (v := ?_) (a' := ?_) #[true, true, true, true, true, true, true, false, false, false, false, false, false, false, false, false] rfl rfl (by kernel_rfl) (fun _ _ _ h => h) (Or.inl ⟨by rfl, ?_⟩) ?_ ?_
  rotate_left
  · intro u
    go_simp
    with_reducible rfl
  rotate_left
  · simp only [Act.put, List.setIfInBounds_toArray, List.set_cons_zero, List.set_cons_succ, i64_w, i32_w]
    rfl
  refine take_ (i := 7) (N := some 14) (v := ?_) (a' := ?_) #[true, true, true, true, true, true, true, true, false, false, false, false, false, false, false, false] rfl rfl (by kernel_rfl) (fun _ _ _ h => h) (Or.inl ⟨by rfl, ?_⟩) hHeld ?_ ?_
  rotate_left
  · rintro u ⟨s0, s1⟩
    go_simp
    with_reducible rfl
  rotate_left
  · simp only [Act.put, List.setIfInBounds_toArray, List.set_cons_zero, List.set_cons_succ, i64_w, i32_w]
    rfl
  refine last_ (i := 8) (N := some 15) #[true, true, true, true, true, true, true, true, true, false, false, false, false, false, false, false] rfl rfl (by kernel_rfl) (by decide) (fun K hK => ?_)
  refine goes_ Try.func66 (by kernel_rfl) rfl #[.slice A l.length c, .int .i64 at_] (by rfl) rfl rfl (by (try simp only [List.map_toArray, List.map_cons, List.map_nil]); first | done | rfl) ?_
  refine (leb_ReadUleb.calls A c l at_ n en er _ (Kd.C_below HC.out (below_drew HB.out)) HCC.out HR.out).mono ?_
  rintro e w1 ⟨rfl, hw1⟩
  refine ⟨_, rfl, ?_⟩
  have HB1 := Aside0.mk (below_step (below_drew HB.out) hw1)
  have HGR := Aside0.mk (grown_below' (grown_drew (World.grownBy.refl w (some g))) hw1)
  have H1 := Aside0.mk (blk_below (blk_drew H.out) hw1)
  have q0 : w1.cell? ⟨g, 1, none⟩ = some (.int .i64 at_) := (blk_cell H1.out 1).trans rfl
  have q1 : w1.cell? ⟨g, 2, none⟩ = some (.bool bad) := (blk_cell H1.out 2).trans rfl
  have q2 := blk_frozen H1.out 1
  have q3 := blk_frozen H1.out 2
  clear hw1 hHeld
  refine hK.out _ _ ?_
  clear hK K
  refine norm_ (a' := ?_) ?_ ?_
  rotate_left
  · show Act.put _ (some 15) _ = _
    simp only [Act.put, List.setIfInBounds_toArray, List.set_cons_zero, List.set_cons_succ, i64_w, i32_w]
    rfl
  refine pure_ (i := 9) (N := some 6) (v := ?_) (a' := ?_) #[true, true, true, true, true, true, true, true, true, true, false, false, false, false, false, false] rfl rfl (by kernel_rfl) (fun _ _ _ h => h) (Or.inl ⟨by rfl, ?_⟩) ?_ ?_
  rotate_left
  · intro u
    go_simp
    with_reducible rfl
  rotate_left
  · simp only [Act.put, List.setIfInBounds_toArray, List.set_cons_zero, List.set_cons_succ, i64_w, i32_w]
    rfl
  refine pure_ (i := 10) (N := some 16) (v := ?_) (a' := ?_) #[true, true, true, true, true, true, true, true, true, true, true, false, false, false, false, false] rfl rfl (by kernel_rfl) (fun _ _ _ h => h) (Or.inl ⟨by rfl, ?_⟩) ?_ ?_
  rotate_left
  · intro u
    go_simp
    with_reducible rfl
  rotate_left
  · simp only [Act.put, List.setIfInBounds_toArray, List.set_cons_zero, List.set_cons_succ, i64_w, i32_w]
    rfl
  refine pure_ (i := 11) (N := some 17) (v := ?_) (a' := ?_) #[true, true, true, true, true, true, true, true, true, true, true, true, false, false, false, false] rfl rfl (by kernel_rfl) (fun _ _ _ h => h) (Or.inl ⟨by rfl, ?_⟩) ?_ ?_
  rotate_left
  · intro u
    go_simp
    with_reducible rfl
  rotate_left
  · simp only [Act.put, List.setIfInBounds_toArray, List.set_cons_zero, List.set_cons_succ, i64_w, i32_w]
    rfl
  refine pure_ (i := 12) (N := some 18) (v := ?_) (a' := ?_) #[true, true, true, true, true, true, true, true, true, true, true, true, true, false, false, false] rfl rfl (by kernel_rfl) (fun _ _ _ h => h) (Or.inl ⟨by rfl, ?_⟩) ?_ ?_
  rotate_left
  · intro u
    go_simp
    with_reducible rfl
  rotate_left
  · simp only [Act.put, List.setIfInBounds_toArray, List.set_cons_zero, List.set_cons_succ, i64_w, i32_w]
    rfl
  refine pure_ (i := 13) (N := some 3) (v := ?_) (a' := ?_) #[true, true, true, true, true, true, true, true, true, true, true, true, true, true, false, false] rfl rfl (by kernel_rfl) (fun _ _ _ h => h) (Or.inl ⟨by rfl, ?_⟩) ?_ ?_
  rotate_left
  · intro u
    go_simp
    with_reducible rfl
  rotate_left
  · simp only [Act.put, List.setIfInBounds_toArray, List.set_cons_zero, List.set_cons_succ, i64_w, i32_w]
    rfl
  refine pure_ (i := 14) (N := some 4) (v := ?_) (a' := ?_) #[true, true, true, true, true, true, true, true, true, true, true, true, true, true, true, false] rfl rfl (by kernel_rfl) (fun _ _ _ h => h) (Or.inl ⟨by rfl, ?_⟩) ?_ ?_
  rotate_left
  · intro u
    go_simp
    with_reducible rfl
  rotate_left
  · simp only [Act.put, List.setIfInBounds_toArray, List.set_cons_zero, List.set_cons_succ, i64_w, i32_w]
    rfl
  refine pure_ (i := 15) (N := some 5) (v := ?_) (a' := ?_) #[true, true, true, true, true, true, true, true, true, true, true, true, true, true, true, true] rfl rfl (by kernel_rfl) (fun _ _ _ h => h) (Or.inl ⟨by rfl, ?_⟩) ?_ ?_
  rotate_left
  · intro u
    go_simp
    with_reducible rfl
  rotate_left
  · simp only [Act.put, List.setIfInBounds_toArray, List.set_cons_zero, List.set_cons_succ, i64_w, i32_w]
    rfl
  refine done_ (by kernel_rfl) ?_
  have hfin : ∀ v : Bool, Rd ((w1.setCell ⟨g, 2, none⟩ (.bool v)).setCell ⟨g, 1, none⟩ (.int .i64 en)) g A l.length c en v := fun v => rd_put H1.out v en
  have HFIN := Aside0.mk hfin
  have hb2 : ∀ v : Bool, Below w0.heap.size w0 ((w1.setCell ⟨g, 2, none⟩ (.bool v)).setCell ⟨g, 1, none⟩ (.int .i64 en)) := fun v => (HB1.out.setCell HG.out _).setCell HG.out _
  have HB2 := Aside0.mk hb2
  have hg2 : ∀ v : Bool, w.grownBy ((w1.setCell ⟨g, 2, none⟩ (.bool v)).setCell ⟨g, 1, none⟩ (.int .i64 en)) (some g) := fun v => grown_set' (grown_set' HGR.out _ _) _ _
  have HG2 := Aside0.mk hg2
  clear hfin hb2 hg2
  by_cases ce : er = 0
  · subst ce
    cases bad <;>
    · go_wp2
      go_ret
      exact ⟨rfl, HB2.out _, HFIN.out _, HG2.out _⟩
  · obtain ⟨d1, d2⟩ := may_ne ce
    clear ce
    cases bad <;>
    · go_wp2
      go_ret
      exact ⟨rfl, HB2.out _, by rw [d2]; exact HFIN.out _, HG2.out _⟩
set_option maxRecDepth 100000 in
theorem number_calls (w0 w : World) (g : Nat) (A : Option Addr) (c : Nat) (l : List Int) (hC : Kd.C (Kd.int .u8) w0 A l.length l) (hc : l.length ≤ c) (hB : Below w0.heap.size w0 w) (hg : w0.heap.size ≤ g) (at_ : Int) (bad : Bool) (size : Int) (hs : 0 ≤ at_ + size ∧ at_ + size ≤ 9223372036854775807) (h : Rd w g A l.length c at_ bad) (k : Nat) (n er : Int) (hr : leb_Get.f k l at_ size false = some (n, er)) :
    Calls Try.prog 48 #[.pointer (some ⟨g, 0, none⟩), .int .i64 size] w fun e w' => e = .returned (.int .i64 n) ∧ Below w0.heap.size w0 w' ∧ Rd w' g A l.length c (at_ + size) (bad || er != 0) ∧ w.grownBy w' (some g) := by
  have HC := Aside0.mk hC
  have HB := Aside0.mk hB
  have HG := Aside0.mk hg
  have HR := Aside0.mk hr
  have H := Aside0.mk h
  have HCC := Aside0.mk hc
  have f0 : w.cell? ⟨g, 0, none⟩ = some (.slice A l.length c) := (blk_cell h 0).trans rfl
  have f1 : w.cell? ⟨g, 1, none⟩ = some (.int .i64 at_) := (blk_cell h 1).trans rfl
  have hwr : wrap64 (at_ + size) = at_ + size := by unfold wrap64; omega
  have hwi : IntKind.i64.wrap (at_ + size) = at_ + size := by rw [IntKind.wrap_i64]; omega
  clear hC hc hB hg h hr hs
  go_enter Try.func48, Try.ntmps48
  go_wp2
  refine start_ (n := 15) (S := fun u => u.cell? ⟨g, 0, none⟩ = some (.slice A l.length c) ∧ u.cell? ⟨g, 1, none⟩ = some (.int .i64 at_)) (ds := [9]) #[false, false, false, false, false, false, false, false, false, false, false, false, false, false, false] (by kernel_rfl) rfl rfl ?_ (fun hHeld => ?_)
  case refine_1 => exact ⟨by go_simp, by go_simp⟩
  refine pure_ (i := 0) (N := some 8) (v := ?_) (a' := ?_) #[true, false, false, false, false, false, false, false, false, false, false, false, false, false, false] rfl rfl (by kernel_rfl) (fun _ _ _ h => h) (Or.inl ⟨by rfl, ?_⟩) ?_ ?_
  rotate_left
  · intro u
    go_simp
    with_reducible rfl
  rotate_left
  · simp only [Act.put, List.setIfInBounds_toArray, List.set_cons_zero, List.set_cons_succ, i64_w, i32_w]
    rfl
  refine pure_ (i := 1) (N := some 9) (v := ?_) (a' := ?_) #[true, true, false, false, false, false, false, false, false, false, false, false, false, false, false] rfl rfl (by kernel_rfl) (fun _ _ _ h => h) (Or.inl ⟨by rfl, ?_⟩) ?_ ?_
  rotate_left
  · intro u
    go_simp
    with_reducible rfl
  rotate_left
  · simp only [Act.put, List.setIfInBounds_toArray, List.set_cons_zero, List.set_cons_succ, i64_w, i32_w]
    rfl
  refine pure_ (i := 2) (N := some 10) (v := ?_) (a' := ?_) #[true, true, true, false, false, false, false, false, false, false, false, false, false, false, false] rfl rfl (by kernel_rfl) (fun _ _ _ h => h) (Or.inl ⟨by rfl, ?_⟩) ?_ ?_
  rotate_left
  · intro u
    go_simp
    with_reducible rfl
  rotate_left
  · simp only [Act.put, List.setIfInBounds_toArray, List.set_cons_zero, List.set_cons_succ, i64_w, i32_w]
    rfl
  refine take_ (i := 3) (N := some 11) (v := ?_) (a' := ?_) #[true, true, true, true, false, false, false, false, false, false, false, false, false, false, false] rfl rfl (by kernel_rfl) (fun _ _ _ h => h) (Or.inl ⟨by rfl, ?_⟩) hHeld ?_ ?_
  rotate_left
  · rintro u ⟨s0, s1⟩
    go_simp
    with_reducible rfl
  rotate_left
  · simp only [Act.put, List.setIfInBounds_toArray, List.set_cons_zero, List.set_cons_succ, i64_w, i32_w]
    rfl
  refine pure_ (i := 4) (N := some 12) (v := ?_) (a' := ?_) #[true, true, true, true, true, false, false, false, false, false, false, false, false, false, false] rfl rfl (by kernel_rfl) (fun _ _ _ h => h) (Or.inl ⟨by rfl, ?_⟩) ?_ ?_
  rotate_left
  · intro u
    go_simp
    with_reducible rfl
  rotate_left
  · simp only [Act.put, List.setIfInBounds_toArray, List.set_cons_zero, List.set_cons_succ, i64_w, i32_w]
    rfl
  refine pure_ (i := 5) (N := some 13) (v := ?_) (a' := ?_) #[true, true, true, true, true, true, false, false, false, false, false, false, false, false, false] rfl rfl (by kernel_rfl) (fun _ _ _ h => h) (Or.inl ⟨by rfl, ?_⟩) ?_ ?_
  rotate_left
  · intro u
    go_simp
    with_reducible rfl
  rotate_left
  · simp only [Act.put, List.setIfInBounds_toArray, List.set_cons_zero, List.set_cons_succ, i64_w, i32_w]
    rfl
  refine pure_ (i := 6) (N := some 14) (v := ?_) (a' := ?_) #[true, true, true, true, true, true, true, false, false, false, false, false, false, false, false] rfl rfl (by kernel_rfl) (fun _ _ _ h => h) (Or.inl ⟨by rfl, ?_⟩) ?_ ?_
  rotate_left
  · intro u
    go_simp
    with_reducible rfl
  rotate_left
  · simp only [Act.put, List.setIfInBounds_toArray, List.set_cons_zero, List.set_cons_succ, i64_w, i32_w]
    rfl
  refine take_ (i := 7) (N := some 15) (v := ?_) (a' := ?_) #[true, true, true, true, true, true, true, true, false, false, false, false, false, false, false] rfl rfl (by kernel_rfl) (fun _ _ _ h => h) (Or.inl ⟨by rfl, ?_⟩) hHeld ?_ ?_
  rotate_left
  · rintro u ⟨s0, s1⟩
    go_simp
    with_reducible rfl
  rotate_left
  · simp only [Act.put, List.setIfInBounds_toArray, List.set_cons_zero, List.set_cons_succ, i64_w, i32_w]
    rfl
  refine pure_ (i := 8) (N := some 16) (v := ?_) (a' := ?_) #[true, true, true, true, true, true, true, true, true, false, false, false, false, false, false] rfl rfl (by kernel_rfl) (fun _ _ _ h => h) (Or.inl ⟨by rfl, ?_⟩) ?_ ?_
  rotate_left
  · intro u
    go_simp
    with_reducible rfl
  rotate_left
  · simp only [Act.put, List.setIfInBounds_toArray, List.set_cons_zero, List.set_cons_succ, i64_w, i32_w]
    rfl
  refine last_ (i := 9) (N := some 17) #[true, true, true, true, true, true, true, true, true, true, false, false, false, false, false] rfl rfl (by kernel_rfl) (by decide) (fun K hK => ?_)
  refine goes_ Try.func67 (by kernel_rfl) rfl #[.slice A l.length c, .int .i64 at_, .int .i64 size, .bool false] (by rfl) rfl rfl (by (try simp only [List.map_toArray, List.map_cons, List.map_nil]); first | done | rfl) ?_
  refine (leb_Get.calls k A c l at_ size false n er _ (Kd.C_below HC.out (below_drew HB.out)) HCC.out HR.out).mono ?_
  rintro e w1 ⟨rfl, hw1⟩
  have hw1 := hw1.below
  refine ⟨_, rfl, ?_⟩
  have HB1 := Aside0.mk (below_step (below_drew HB.out) hw1)
  have HGR := Aside0.mk (grown_below' (grown_drew (World.grownBy.refl w (some g))) hw1)
  have H1 := Aside0.mk (blk_below (blk_drew H.out) hw1)
  have q0 : w1.cell? ⟨g, 1, none⟩ = some (.int .i64 at_) := (blk_cell H1.out 1).trans rfl
  have q1 : w1.cell? ⟨g, 2, none⟩ = some (.bool bad) := (blk_cell H1.out 2).trans rfl
  have q2 := blk_frozen H1.out 1
  have q3 := blk_frozen H1.out 2
  clear hw1 hHeld
  refine hK.out _ _ ?_
  clear hK K
  refine norm_ (a' := ?_) ?_ ?_
  rotate_left
  · show Act.put _ (some 17) _ = _
    simp only [Act.put, List.setIfInBounds_toArray, List.set_cons_zero, List.set_cons_succ, i64_w, i32_w]
    rfl
  refine pure_ (i := 10) (N := some 7) (v := ?_) (a' := ?_) #[true, true, true, true, true, true, true, true, true, true, true, false, false, false, false] rfl rfl (by kernel_rfl) (fun _ _ _ h => h) (Or.inl ⟨by rfl, ?_⟩) ?_ ?_
  rotate_left
  · intro u
    go_simp
    with_reducible rfl
  rotate_left
  · simp only [Act.put, List.setIfInBounds_toArray, List.set_cons_zero, List.set_cons_succ, i64_w, i32_w]
    rfl
  refine pure_ (i := 11) (N := some 18) (v := ?_) (a' := ?_) #[true, true, true, true, true, true, true, true, true, true, true, true, false, false, false] rfl rfl (by kernel_rfl) (fun _ _ _ h => h) (Or.inl ⟨by rfl, ?_⟩) ?_ ?_
  rotate_left
  · intro u
    go_simp
    with_reducible rfl
  rotate_left
  · simp only [Act.put, List.setIfInBounds_toArray, List.set_cons_zero, List.set_cons_succ, i64_w, i32_w]
    rfl
  refine pure_ (i := 12) (N := some 19) (v := ?_) (a' := ?_) #[true, true, true, true, true, true, true, true, true, true, true, true, true, false, false] rfl rfl (by kernel_rfl) (fun _ _ _ h => h) (Or.inl ⟨by rfl, ?_⟩) ?_ ?_
  rotate_left
  · intro u
    go_simp
    with_reducible rfl
  rotate_left
  · simp only [Act.put, List.setIfInBounds_toArray, List.set_cons_zero, List.set_cons_succ, i64_w, i32_w]
    rfl
  refine pure_ (i := 13) (N := some 5) (v := ?_) (a' := ?_) #[true, true, true, true, true, true, true, true, true, true, true, true, true, true, false] rfl rfl (by kernel_rfl) (fun _ _ _ h => h) (Or.inl ⟨by rfl, ?_⟩) ?_ ?_
  rotate_left
  · intro u
    go_simp
    with_reducible rfl
  rotate_left
  · simp only [Act.put, List.setIfInBounds_toArray, List.set_cons_zero, List.set_cons_succ, i64_w, i32_w]
    rfl
  refine pure_ (i := 14) (N := some 6) (v := ?_) (a' := ?_) #[true, true, true, true, true, true, true, true, true, true, true, true, true, true, true] rfl rfl (by kernel_rfl) (fun _ _ _ h => h) (Or.inl ⟨by rfl, ?_⟩) ?_ ?_
  rotate_left
  · intro u
    go_simp
    with_reducible rfl
  rotate_left
  · simp only [Act.put, List.setIfInBounds_toArray, List.set_cons_zero, List.set_cons_succ, i64_w, i32_w]
    rfl
  refine done_ (by kernel_rfl) ?_
  have hfin : ∀ v : Bool, Rd ((w1.setCell ⟨g, 2, none⟩ (.bool v)).setCell ⟨g, 1, none⟩ (.int .i64 (at_ + size))) g A l.length c (at_ + size) v := fun v => rd_put H1.out v (at_ + size)
  have HFIN := Aside0.mk hfin
  have hb2 : ∀ v : Bool, Below w0.heap.size w0 ((w1.setCell ⟨g, 2, none⟩ (.bool v)).setCell ⟨g, 1, none⟩ (.int .i64 (at_ + size))) := fun v => (HB1.out.setCell HG.out _).setCell HG.out _
  have HB2 := Aside0.mk hb2
  have hg2 : ∀ v : Bool, w.grownBy ((w1.setCell ⟨g, 2, none⟩ (.bool v)).setCell ⟨g, 1, none⟩ (.int .i64 (at_ + size))) (some g) := fun v => grown_set' (grown_set' HGR.out _ _) _ _
  have HG2 := Aside0.mk hg2
  clear hfin hb2 hg2
  by_cases ce : er = 0
  · subst ce
    cases bad <;>
    · go_wp2
      go_ret
      exact ⟨rfl, HB2.out _, HFIN.out _, HG2.out _⟩
  · obtain ⟨d1, d2⟩ := may_ne ce
    clear ce
    cases bad <;>
    · go_wp2
      go_ret
      exact ⟨rfl, HB2.out _, by rw [d2]; exact HFIN.out _, HG2.out _⟩
/-- what 'factored' answers, and whether the reader is bad then -/
def facV (n : Int) (bad : Bool) : Int × Bool := if n < -1099511627776 then (0, true) else if n > 1099511627776 then (0, true) else (-8 * n, bad)
set_option maxRecDepth 100000 in
theorem factored_calls (w0 w : World) (g : Nat) (A : Option Addr) (len c : Nat) (hB : Below w0.heap.size w0 w) (hg : w0.heap.size ≤ g) (at_ : Int) (bad : Bool) (h : Rd w g A len c at_ bad) (n : Int) :
    Calls Try.prog 46 #[.pointer (some ⟨g, 0, none⟩), .int .i64 n] w fun e w' => e = .returned (.int .i64 (facV n bad).1) ∧ Below w0.heap.size w0 w' ∧ Rd w' g A len c at_ (facV n bad).2 ∧ w.grownBy w' (some g) := by
  have HB := Aside0.mk hB
  have HG := Aside0.mk hg
  have H := Aside0.mk h
  have q1 : w.cell? ⟨g, 2, none⟩ = some (.bool bad) := (blk_cell h 2).trans rfl
  have q3 := blk_frozen h 2
  have HP : Aside0 (Rd (w.setCell ⟨g, 2, none⟩ (.bool true)) g A len c at_ true) := ⟨blk_put h 2 _ (by rfl)⟩
  unfold facV
  clear hB hg h
  by_cases c1 : n < -1099511627776
  · rw [if_pos c1]
    have d1 : decide (n < -1099511627776) = true := decide_eq_true c1
    clear c1
    go_enter Try.func46, Try.ntmps46
    go_wp2
    go_ret
    exact ⟨rfl, HB.out.setCell HG.out _, HP.out, grown_set _ _ _ _⟩
  · rw [if_neg c1]
    have d1 : decide (n < -1099511627776) = false := decide_eq_false c1
    by_cases c2 : n > 1099511627776
    · rw [if_pos c2]
      have d2 : decide (n > 1099511627776) = true := decide_eq_true c2
      clear c1 c2
      go_enter Try.func46, Try.ntmps46
      go_wp2
      go_ret
      exact ⟨rfl, HB.out.setCell HG.out _, HP.out, grown_set _ _ _ _⟩
    · rw [if_neg c2]
      have d2 : decide (n > 1099511627776) = false := decide_eq_false c2
      have hw : wrap64 (-8 * n) = -8 * n := by unfold wrap64; omega
      have hwi : IntKind.i64.wrap (-8 * n) = -8 * n := by rw [IntKind.wrap_i64]; omega
      clear c1 c2
      go_enter Try.func46, Try.ntmps46
      go_wp2
      go_ret
      exact ⟨rfl, HB.out, H.out, World.grownBy.refl _ _⟩
end Go.Proofs.Ytngddlihppomhaa.CfaRd
