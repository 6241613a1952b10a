/- The program's reader of an op: the bytes that Write writes. -/
import Derived.Test.YtngddlihppomhaaCfaReader
namespace Go.Proofs.Ytngddlihppomhaa.CfaRd
set_option linter.unusedVariables false
set_option linter.unusedSimpArgs false
open Go.RowKit Go.Proofs.Ytngddlihppomhaa.G Go.Proofs.YtngddlihppomhaaW.PrintWords Go.Proofs.YtngddlihppomhaaW.PrintLast Go.Proofs.YtngddlihppomhaaW.PrintMore Go.Proofs.Ytngddlihppomhaa.Cfa
/-- What 'op' answers: an op, and the reader as it is then. -/
def OpPost (w0 w : World) (g : Nat) (A : Option Addr) (len c : Nat) (o : Int × Int × Int) (at_ : Int) (e : Ending) (w' : World) : Prop :=
  e = .returned (.agg #[.int .i64 o.1, .int .i64 o.2.1, .int .i64 o.2.2]) ∧ Below w0.heap.size w0 w' ∧ Rd w' g A len c at_ false ∧ w.grownBy w' (some g)
theorem op_size : (Try.prog.info? 40).map (·.size) = some 3 := by kernel_rfl
set_option maxRecDepth 100000 in
theorem op_recall (w0 w : World) (g : Nat) (A : Option Addr) (len c : Nat) (hB : Below w0.heap.size w0 w) (hg : w0.heap.size ≤ g) (at_ : Int) (h : Rd w g A len c at_ false) :
    Calls Try.prog 36 #[.pointer (some ⟨g, 0, none⟩), .int .i64 11] w (OpPost w0 w g A len c (10, 0, 0) at_) := by
  have HB := Aside0.mk hB
  have HG := Aside0.mk hg
  have H := Aside0.mk h
  have hgl := blk_lt h
  clear hB hg h
  go_enter Try.func36, Try.ntmps36
  go_wp2
  exact bodyPost_ret (v := .agg #[.int .i64 10, .int .i64 0, .int .i64 0]) (results_single (r := .cell 4 40) rfl (.cell w.heap.size 40 _ (0, 0) _ rfl (blk_new w _) Try.underlying40 rfl op_size .nil)) rfl ⟨rfl, (HB.out.trans ((below_alloc (Below.refl w.heap.size w) _).mono HB.out.size)), blk_alloc H.out _, grown_alloc (World.grownBy.refl _ _) _⟩
set_option maxRecDepth 100000 in
theorem op_remember (w0 w : World) (g : Nat) (A : Option Addr) (len c : Nat) (hB : Below w0.heap.size w0 w) (hg : w0.heap.size ≤ g) (at_ : Int) (h : Rd w g A len c at_ false) :
    Calls Try.prog 36 #[.pointer (some ⟨g, 0, none⟩), .int .i64 10] w (OpPost w0 w g A len c (9, 0, 0) at_) := by
  have HB := Aside0.mk hB
  have HG := Aside0.mk hg
  have H := Aside0.mk h
  have hgl := blk_lt h
  clear hB hg h
  go_enter Try.func36, Try.ntmps36
  go_wp2
  exact bodyPost_ret (v := .agg #[.int .i64 9, .int .i64 0, .int .i64 0]) (results_single (r := .cell 4 40) rfl (.cell w.heap.size 40 _ (0, 0) _ rfl (blk_new w _) Try.underlying40 rfl op_size .nil)) rfl ⟨rfl, (HB.out.trans ((below_alloc (Below.refl w.heap.size w) _).mono HB.out.size)), blk_alloc H.out _, grown_alloc (World.grownBy.refl _ _) _⟩
set_option maxRecDepth 100000 in
theorem op_nop (w0 w : World) (g : Nat) (A : Option Addr) (len c : Nat) (hB : Below w0.heap.size w0 w) (hg : w0.heap.size ≤ g) (at_ : Int) (h : Rd w g A len c at_ false) :
    Calls Try.prog 36 #[.pointer (some ⟨g, 0, none⟩), .int .i64 0] w (OpPost w0 w g A len c (0, 0, 0) at_) := by
  have HB := Aside0.mk hB
  have HG := Aside0.mk hg
  have H := Aside0.mk h
  have hgl := blk_lt h
  clear hB hg h
  go_enter Try.func36, Try.ntmps36
  go_wp2
  exact bodyPost_ret (v := .agg #[.int .i64 0, .int .i64 0, .int .i64 0]) (results_single (r := .cell 4 40) rfl (.cell w.heap.size 40 _ (0, 0) _ rfl (blk_new w _) Try.underlying40 rfl op_size .nil)) rfl ⟨rfl, (HB.out.trans ((below_alloc (Below.refl w.heap.size w) _).mono HB.out.size)), blk_alloc H.out _, grown_alloc (World.grownBy.refl _ _) _⟩
theorem grown_far {w w' : World} {row : Option Nat} (h : w.grownBy w' row) {b : Nat} (hb : w.heap.size ≤ b) (j : Nat) (v : Value) : w.grownBy (w'.setCell ⟨b, j, none⟩ v) row :=
  ⟨h.os, h.tape, h.output, by simpa [World.setCell] using h.size, fun k hk hr => (Below.heap_setCell w' ⟨b, j, none⟩ v k (fun e => absurd (show k = b from e) (Nat.ne_of_lt (Nat.lt_of_lt_of_le hk hb)))).trans (h.block k hk hr)⟩
set_option maxRecDepth 100000 in
theorem op_defRegister (w0 w : World) (g : Nat) (A : Option Addr) (c : Nat) (l : List Int) (hC : Kd.C (Kd.int .u8) w0 A l.length l) (hc : l.length ≤ c) (hB : Below w0.heap.size w0 w) (hg : w0.heap.size ≤ g) (at_ : Int) (h : Rd w g A l.length c at_ false) (x en : Int) (hr : leb_ReadUleb.f l at_ = some (x, en, 0)) :
    Calls Try.prog 36 #[.pointer (some ⟨g, 0, none⟩), .int .i64 13] w (OpPost w0 w g A l.length c (4, x, 0) en) := by
  have HC := Aside0.mk hC
  have HCC := Aside0.mk hc
  have HR := Aside0.mk hr
  have HB := Aside0.mk hB
  have HG := Aside0.mk hg
  have H := Aside0.mk h
  have hgl : g < w.heap.size := blk_lt h
  have hne : w.heap.size ≠ g := Nat.ne_of_gt hgl
  clear hB hg h hC hc hr
  go_enter Try.func36, Try.ntmps36
  go_wp2_with fail
  refine (uleb_calls w0 _ g A c l HC.out HCC.out (HB.out.trans ((below_alloc (Below.refl w.heap.size w) _).mono HB.out.size)) HG.out at_ false (blk_alloc H.out _) x en 0 HR.out).mono ?_
  rintro e w1 ⟨rfl, hb1, hr1, hg1⟩
  have HB1 := Aside0.mk hb1
  have H1 := Aside0.mk (show Rd w1 g A l.length c en false from hr1)
  have HG1 := Aside0.mk (World.grownBy.trans (grown_alloc (World.grownBy.refl w (some g)) (.cells #[.int .i64 0, .int .i64 0, .int .i64 0] 40)) hg1)
  have hbk := blk_grown (blk_new w (.cells #[.int .i64 0, .int .i64 0, .int .i64 0] 40)) hg1 (fun e => hne (Option.some.inj e))
  have HBK := Aside0.mk hbk
  have c0 : w1.cell? ⟨w.heap.size, 0, none⟩ = some (.int .i64 0) := (blk_cell hbk 0).trans rfl
  have c1 : w1.cell? ⟨w.heap.size, 1, none⟩ = some (.int .i64 0) := (blk_cell hbk 1).trans rfl
  have c2 : w1.cell? ⟨w.heap.size, 2, none⟩ = some (.int .i64 0) := (blk_cell hbk 2).trans rfl
  have d0 := blk_frozen hbk 0
  have d1 := blk_frozen hbk 1
  have d2 := blk_frozen hbk 2
  clear hb1 hr1 hg1 hbk
  go_wp2
  have hlo : w0.heap.size ≤ w.heap.size := HB.out.size
  exact bodyPost_ret (v := .agg #[.int .i64 4, .int .i64 x, .int .i64 0]) (results_single (r := .cell 4 40) rfl (.cell w.heap.size 40 _ (0, 0) _ rfl (blk_put (blk_put (blk_put HBK.out 0 _ rfl) 1 _ rfl) 2 _ rfl) Try.underlying40 rfl op_size .nil)) rfl ⟨rfl, ((HB1.out.setCell hlo _).setCell hlo _).setCell hlo _, blk_far (blk_far (blk_far H1.out hne.symm _) hne.symm _) hne.symm _, grown_far (grown_far (grown_far HG1.out (Nat.le_refl _) _ _) (Nat.le_refl _) _ _) (Nat.le_refl _) _ _⟩
set_option maxRecDepth 100000 in
theorem op_defOffset (w0 w : World) (g : Nat) (A : Option Addr) (c : Nat) (l : List Int) (hC : Kd.C (Kd.int .u8) w0 A l.length l) (hc : l.length ≤ c) (hB : Below w0.heap.size w0 w) (hg : w0.heap.size ≤ g) (at_ : Int) (h : Rd w g A l.length c at_ false) (x en : Int) (hr : leb_ReadUleb.f l at_ = some (x, en, 0)) :
    Calls Try.prog 36 #[.pointer (some ⟨g, 0, none⟩), .int .i64 14] w (OpPost w0 w g A l.length c (3, 0, x) en) := by
  have HC := Aside0.mk hC
  have HCC := Aside0.mk hc
  have HR := Aside0.mk hr
  have HB := Aside0.mk hB
  have HG := Aside0.mk hg
  have H := Aside0.mk h
  have hgl : g < w.heap.size := blk_lt h
  have hne : w.heap.size ≠ g := Nat.ne_of_gt hgl
  clear hB hg h hC hc hr
  go_enter Try.func36, Try.ntmps36
  go_wp2_with fail
  refine (uleb_calls w0 _ g A c l HC.out HCC.out (HB.out.trans ((below_alloc (Below.refl w.heap.size w) _).mono HB.out.size)) HG.out at_ false (blk_alloc H.out _) x en 0 HR.out).mono ?_
  rintro e w1 ⟨rfl, hb1, hr1, hg1⟩
  have HB1 := Aside0.mk hb1
  have H1 := Aside0.mk (show Rd w1 g A l.length c en false from hr1)
  have HG1 := Aside0.mk (World.grownBy.trans (grown_alloc (World.grownBy.refl w (some g)) (.cells #[.int .i64 0, .int .i64 0, .int .i64 0] 40)) hg1)
  have hbk := blk_grown (blk_new w (.cells #[.int .i64 0, .int .i64 0, .int .i64 0] 40)) hg1 (fun e => hne (Option.some.inj e))
  have HBK := Aside0.mk hbk
  have c0 : w1.cell? ⟨w.heap.size, 0, none⟩ = some (.int .i64 0) := (blk_cell hbk 0).trans rfl
  have c1 : w1.cell? ⟨w.heap.size, 1, none⟩ = some (.int .i64 0) := (blk_cell hbk 1).trans rfl
  have c2 : w1.cell? ⟨w.heap.size, 2, none⟩ = some (.int .i64 0) := (blk_cell hbk 2).trans rfl
  have d0 := blk_frozen hbk 0
  have d1 := blk_frozen hbk 1
  have d2 := blk_frozen hbk 2
  clear hb1 hr1 hg1 hbk
  go_wp2
  have hlo : w0.heap.size ≤ w.heap.size := HB.out.size
  exact bodyPost_ret (v := .agg #[.int .i64 3, .int .i64 0, .int .i64 x]) (results_single (r := .cell 4 40) rfl (.cell w.heap.size 40 _ (0, 0) _ rfl (blk_put (blk_put (blk_put HBK.out 0 _ rfl) 1 _ rfl) 2 _ rfl) Try.underlying40 rfl op_size .nil)) rfl ⟨rfl, ((HB1.out.setCell hlo _).setCell hlo _).setCell hlo _, blk_far (blk_far (blk_far H1.out hne.symm _) hne.symm _) hne.symm _, grown_far (grown_far (grown_far HG1.out (Nat.le_refl _) _ _) (Nat.le_refl _) _ _) (Nat.le_refl _) _ _⟩
set_option maxRecDepth 100000 in
theorem op_undefined (w0 w : World) (g : Nat) (A : Option Addr) (c : Nat) (l : List Int) (hC : Kd.C (Kd.int .u8) w0 A l.length l) (hc : l.length ≤ c) (hB : Below w0.heap.size w0 w) (hg : w0.heap.size ≤ g) (at_ : Int) (h : Rd w g A l.length c at_ false) (x en : Int) (hr : leb_ReadUleb.f l at_ = some (x, en, 0)) :
    Calls Try.prog 36 #[.pointer (some ⟨g, 0, none⟩), .int .i64 7] w (OpPost w0 w g A l.length c (7, x, 0) en) := by
  have HC := Aside0.mk hC
  have HCC := Aside0.mk hc
  have HR := Aside0.mk hr
  have HB := Aside0.mk hB
  have HG := Aside0.mk hg
  have H := Aside0.mk h
  have hgl : g < w.heap.size := blk_lt h
  have hne : w.heap.size ≠ g := Nat.ne_of_gt hgl
  clear hB hg h hC hc hr
  go_enter Try.func36, Try.ntmps36
  go_wp2_with fail
  refine (uleb_calls w0 _ g A c l HC.out HCC.out (HB.out.trans ((below_alloc (Below.refl w.heap.size w) _).mono HB.out.size)) HG.out at_ false (blk_alloc H.out _) x en 0 HR.out).mono ?_
  rintro e w1 ⟨rfl, hb1, hr1, hg1⟩
  have HB1 := Aside0.mk hb1
  have H1 := Aside0.mk (show Rd w1 g A l.length c en false from hr1)
  have HG1 := Aside0.mk (World.grownBy.trans (grown_alloc (World.grownBy.refl w (some g)) (.cells #[.int .i64 0, .int .i64 0, .int .i64 0] 40)) hg1)
  have hbk := blk_grown (blk_new w (.cells #[.int .i64 0, .int .i64 0, .int .i64 0] 40)) hg1 (fun e => hne (Option.some.inj e))
  have HBK := Aside0.mk hbk
  have c0 : w1.cell? ⟨w.heap.size, 0, none⟩ = some (.int .i64 0) := (blk_cell hbk 0).trans rfl
  have c1 : w1.cell? ⟨w.heap.size, 1, none⟩ = some (.int .i64 0) := (blk_cell hbk 1).trans rfl
  have c2 : w1.cell? ⟨w.heap.size, 2, none⟩ = some (.int .i64 0) := (blk_cell hbk 2).trans rfl
  have d0 := blk_frozen hbk 0
  have d1 := blk_frozen hbk 1
  have d2 := blk_frozen hbk 2
  clear hb1 hr1 hg1 hbk
  go_wp2
  have hlo : w0.heap.size ≤ w.heap.size := HB.out.size
  exact bodyPost_ret (v := .agg #[.int .i64 7, .int .i64 x, .int .i64 0]) (results_single (r := .cell 4 40) rfl (.cell w.heap.size 40 _ (0, 0) _ rfl (blk_put (blk_put (blk_put HBK.out 0 _ rfl) 1 _ rfl) 2 _ rfl) Try.underlying40 rfl op_size .nil)) rfl ⟨rfl, ((HB1.out.setCell hlo _).setCell hlo _).setCell hlo _, blk_far (blk_far (blk_far H1.out hne.symm _) hne.symm _) hne.symm _, grown_far (grown_far (grown_far HG1.out (Nat.le_refl _) _ _) (Nat.le_refl _) _ _) (Nat.le_refl _) _ _⟩
set_option maxRecDepth 100000 in
theorem op_sameValue (w0 w : World) (g : Nat) (A : Option Addr) (c : Nat) (l : List Int) (hC : Kd.C (Kd.int .u8) w0 A l.length l) (hc : l.length ≤ c) (hB : Below w0.heap.size w0 w) (hg : w0.heap.size ≤ g) (at_ : Int) (h : Rd w g A l.length c at_ false) (x en : Int) (hr : leb_ReadUleb.f l at_ = some (x, en, 0)) :
    Calls Try.prog 36 #[.pointer (some ⟨g, 0, none⟩), .int .i64 8] w (OpPost w0 w g A l.length c (8, x, 0) en) := by
  have HC := Aside0.mk hC
  have HCC := Aside0.mk hc
  have HR := Aside0.mk hr
  have HB := Aside0.mk hB
  have HG := Aside0.mk hg
  have H := Aside0.mk h
  have hgl : g < w.heap.size := blk_lt h
  have hne : w.heap.size ≠ g := Nat.ne_of_gt hgl
  clear hB hg h hC hc hr
  go_enter Try.func36, Try.ntmps36
  go_wp2_with fail
  refine (uleb_calls w0 _ g A c l HC.out HCC.out (HB.out.trans ((below_alloc (Below.refl w.heap.size w) _).mono HB.out.size)) HG.out at_ false (blk_alloc H.out _) x en 0 HR.out).mono ?_
  rintro e w1 ⟨rfl, hb1, hr1, hg1⟩
  have HB1 := Aside0.mk hb1
  have H1 := Aside0.mk (show Rd w1 g A l.length c en false from hr1)
  have HG1 := Aside0.mk (World.grownBy.trans (grown_alloc (World.grownBy.refl w (some g)) (.cells #[.int .i64 0, .int .i64 0, .int .i64 0] 40)) hg1)
  have hbk := blk_grown (blk_new w (.cells #[.int .i64 0, .int .i64 0, .int .i64 0] 40)) hg1 (fun e => hne (Option.some.inj e))
  have HBK := Aside0.mk hbk
  have c0 : w1.cell? ⟨w.heap.size, 0, none⟩ = some (.int .i64 0) := (blk_cell hbk 0).trans rfl
  have c1 : w1.cell? ⟨w.heap.size, 1, none⟩ = some (.int .i64 0) := (blk_cell hbk 1).trans rfl
  have c2 : w1.cell? ⟨w.heap.size, 2, none⟩ = some (.int .i64 0) := (blk_cell hbk 2).trans rfl
  have d0 := blk_frozen hbk 0
  have d1 := blk_frozen hbk 1
  have d2 := blk_frozen hbk 2
  clear hb1 hr1 hg1 hbk
  go_wp2
  have hlo : w0.heap.size ≤ w.heap.size := HB.out.size
  exact bodyPost_ret (v := .agg #[.int .i64 8, .int .i64 x, .int .i64 0]) (results_single (r := .cell 4 40) rfl (.cell w.heap.size 40 _ (0, 0) _ rfl (blk_put (blk_put (blk_put HBK.out 0 _ rfl) 1 _ rfl) 2 _ rfl) Try.underlying40 rfl op_size .nil)) rfl ⟨rfl, ((HB1.out.setCell hlo _).setCell hlo _).setCell hlo _, blk_far (blk_far (blk_far H1.out hne.symm _) hne.symm _) hne.symm _, grown_far (grown_far (grown_far HG1.out (Nat.le_refl _) _ _) (Nat.le_refl _) _ _) (Nat.le_refl _) _ _⟩
end Go.Proofs.Ytngddlihppomhaa.CfaRd
