/- The program's reader of an op: the other bytes that Write writes. -/
import Derived.Test.YtngddlihppomhaaCfaReadOp
import Derived.Test.YtngddlihppomhaaGfM
import Derived.Test.YtngddlihppomhaaBits
namespace Go.Proofs.Ytngddlihppomhaa.CfaRd
set_option linter.unusedVariables false
set_option linter.unusedSimpArgs false
open Go.Proofs.Ytngddlihppomhaa.Bit Go.RowKit Go.Proofs.Ytngddlihppomhaa.G Go.Proofs.YtngddlihppomhaaW.PrintWords Go.Proofs.YtngddlihppomhaaW.PrintLast Go.Proofs.YtngddlihppomhaaW.PrintMore Go.Proofs.Ytngddlihppomhaa.Cfa
theorem b63 (b : Int) : Go.bits .and .i64 b 63 = b % 64 := i64_mask b 6 (by decide)
set_option maxRecDepth 100000 in
theorem op_advance (w0 w : World) (g : Nat) (A : Option Addr) (len c : Nat) (hB : Below w0.heap.size w0 w) (hg : w0.heap.size ≤ g) (at_ : Int) (h : Rd w g A len c at_ false) (b n : Int) (hb : b = 64 + n) (hn : 0 ≤ n ∧ n < 64) :
    Calls Try.prog 36 #[.pointer (some ⟨g, 0, none⟩), .int .i64 b] w (OpPost w0 w g A len c (1, 0, n) at_) := by
  have HB := Aside0.mk hB
  have HG := Aside0.mk hg
  have H := Aside0.mk h
  have hgl := blk_lt h
  have fq : b / 64 = 1 := by omega
  have fb : Go.bits .and .i64 b 63 = n := by rw [b63]; omega
  clear hB hg h hb hn
  go_enter Try.func36, Try.ntmps36
  go_wp2
  exact bodyPost_ret (v := .agg #[.int .i64 1, .int .i64 0, .int .i64 n]) (results_single (r := .cell 4 40) rfl (.cell w.heap.size 40 _ (0, 0) _ rfl (blk_new w _) Try.underlying40 rfl op_size .nil)) rfl ⟨rfl, (HB.out.trans ((below_alloc (Below.refl w.heap.size w) _).mono HB.out.size)), blk_alloc H.out _, grown_alloc (World.grownBy.refl _ _) _⟩
set_option maxRecDepth 100000 in
theorem op_restore (w0 w : World) (g : Nat) (A : Option Addr) (len c : Nat) (hB : Below w0.heap.size w0 w) (hg : w0.heap.size ≤ g) (at_ : Int) (h : Rd w g A len c at_ false) (b n : Int) (hb : b = 192 + n) (hn : 0 ≤ n ∧ n < 64) :
    Calls Try.prog 36 #[.pointer (some ⟨g, 0, none⟩), .int .i64 b] w (OpPost w0 w g A len c (6, n, 0) at_) := by
  have HB := Aside0.mk hB
  have HG := Aside0.mk hg
  have H := Aside0.mk h
  have hgl := blk_lt h
  have fq : b / 64 = 3 := by omega
  have fb : Go.bits .and .i64 b 63 = n := by rw [b63]; omega
  clear hB hg h hb hn
  go_enter Try.func36, Try.ntmps36
  go_wp2
  exact bodyPost_ret (v := .agg #[.int .i64 6, .int .i64 n, .int .i64 0]) (results_single (r := .cell 4 40) rfl (.cell w.heap.size 40 _ (0, 0) _ rfl (blk_new w _) Try.underlying40 rfl op_size .nil)) rfl ⟨rfl, (HB.out.trans ((below_alloc (Below.refl w.heap.size w) _).mono HB.out.size)), blk_alloc H.out _, grown_alloc (World.grownBy.refl _ _) _⟩
set_option maxRecDepth 100000 in
theorem op_number1 (w0 w : World) (g : Nat) (A : Option Addr) (c : Nat) (l : List Int) (hC : Kd.C (Kd.int .u8) w0 A l.length l) (hc : l.length ≤ c) (hB : Below w0.heap.size w0 w) (hg : w0.heap.size ≤ g) (at_ : Int) (h : Rd w g A l.length c at_ false) (hs : 0 ≤ at_ + 1 ∧ at_ + 1 ≤ 9223372036854775807) (k : Nat) (x : Int) (hr : leb_Get.f k l at_ 1 false = some (x, 0)) :
    Calls Try.prog 36 #[.pointer (some ⟨g, 0, none⟩), .int .i64 2] w (OpPost w0 w g A l.length c (1, 0, x) (at_ + 1)) := by
  have HC := Aside0.mk hC
  have HCC := Aside0.mk hc
  have HR := Aside0.mk hr
  have HS := Aside0.mk hs
  have HB := Aside0.mk hB
  have HG := Aside0.mk hg
  have H := Aside0.mk h
  have hgl : g < w.heap.size := blk_lt h
  have hne : w.heap.size ≠ g := Nat.ne_of_gt hgl
  clear hB hg h hC hc hr hs
  go_enter Try.func36, Try.ntmps36
  go_wp2_with fail
  refine (number_calls w0 _ g A c l HC.out HCC.out (HB.out.trans ((below_alloc (Below.refl w.heap.size w) _).mono HB.out.size)) HG.out at_ false 1 HS.out (blk_alloc H.out _) k x 0 HR.out).mono ?_
  rintro e w1 ⟨rfl, hb1, hr1, hg1⟩
  have HB1 := Aside0.mk hb1
  have H1 := Aside0.mk (show Rd w1 g A l.length c (at_ + 1) false from hr1)
  have HG1 := Aside0.mk (World.grownBy.trans (grown_alloc (World.grownBy.refl w (some g)) (.cells #[.int .i64 0, .int .i64 0, .int .i64 0] 40)) hg1)
  have hbk := blk_grown (blk_new w (.cells #[.int .i64 0, .int .i64 0, .int .i64 0] 40)) hg1 (fun e => hne (Option.some.inj e))
  have HBK := Aside0.mk hbk
  have c0 : w1.cell? ⟨w.heap.size, 0, none⟩ = some (.int .i64 0) := (blk_cell hbk 0).trans rfl
  have c1 : w1.cell? ⟨w.heap.size, 1, none⟩ = some (.int .i64 0) := (blk_cell hbk 1).trans rfl
  have c2 : w1.cell? ⟨w.heap.size, 2, none⟩ = some (.int .i64 0) := (blk_cell hbk 2).trans rfl
  have d0 := blk_frozen hbk 0
  have d1 := blk_frozen hbk 1
  have d2 := blk_frozen hbk 2
  clear hb1 hr1 hg1 hbk
  go_wp2
  have hlo : w0.heap.size ≤ w.heap.size := HB.out.size
  exact bodyPost_ret (v := .agg #[.int .i64 1, .int .i64 0, .int .i64 x]) (results_single (r := .cell 4 40) rfl (.cell w.heap.size 40 _ (0, 0) _ rfl (blk_put (blk_put (blk_put HBK.out 0 _ rfl) 1 _ rfl) 2 _ rfl) Try.underlying40 rfl op_size .nil)) rfl ⟨rfl, ((HB1.out.setCell hlo _).setCell hlo _).setCell hlo _, blk_far (blk_far (blk_far H1.out hne.symm _) hne.symm _) hne.symm _, grown_far (grown_far (grown_far HG1.out (Nat.le_refl _) _ _) (Nat.le_refl _) _ _) (Nat.le_refl _) _ _⟩
set_option maxRecDepth 100000 in
theorem op_number2 (w0 w : World) (g : Nat) (A : Option Addr) (c : Nat) (l : List Int) (hC : Kd.C (Kd.int .u8) w0 A l.length l) (hc : l.length ≤ c) (hB : Below w0.heap.size w0 w) (hg : w0.heap.size ≤ g) (at_ : Int) (h : Rd w g A l.length c at_ false) (hs : 0 ≤ at_ + 2 ∧ at_ + 2 ≤ 9223372036854775807) (k : Nat) (x : Int) (hr : leb_Get.f k l at_ 2 false = some (x, 0)) :
    Calls Try.prog 36 #[.pointer (some ⟨g, 0, none⟩), .int .i64 3] w (OpPost w0 w g A l.length c (1, 0, x) (at_ + 2)) := by
  have HC := Aside0.mk hC
  have HCC := Aside0.mk hc
  have HR := Aside0.mk hr
  have HS := Aside0.mk hs
  have HB := Aside0.mk hB
  have HG := Aside0.mk hg
  have H := Aside0.mk h
  have hgl : g < w.heap.size := blk_lt h
  have hne : w.heap.size ≠ g := Nat.ne_of_gt hgl
  clear hB hg h hC hc hr hs
  go_enter Try.func36, Try.ntmps36
  go_wp2_with fail
  refine (number_calls w0 _ g A c l HC.out HCC.out (HB.out.trans ((below_alloc (Below.refl w.heap.size w) _).mono HB.out.size)) HG.out at_ false 2 HS.out (blk_alloc H.out _) k x 0 HR.out).mono ?_
  rintro e w1 ⟨rfl, hb1, hr1, hg1⟩
  have HB1 := Aside0.mk hb1
  have H1 := Aside0.mk (show Rd w1 g A l.length c (at_ + 2) false from hr1)
  have HG1 := Aside0.mk (World.grownBy.trans (grown_alloc (World.grownBy.refl w (some g)) (.cells #[.int .i64 0, .int .i64 0, .int .i64 0] 40)) hg1)
  have hbk := blk_grown (blk_new w (.cells #[.int .i64 0, .int .i64 0, .int .i64 0] 40)) hg1 (fun e => hne (Option.some.inj e))
  have HBK := Aside0.mk hbk
  have c0 : w1.cell? ⟨w.heap.size, 0, none⟩ = some (.int .i64 0) := (blk_cell hbk 0).trans rfl
  have c1 : w1.cell? ⟨w.heap.size, 1, none⟩ = some (.int .i64 0) := (blk_cell hbk 1).trans rfl
  have c2 : w1.cell? ⟨w.heap.size, 2, none⟩ = some (.int .i64 0) := (blk_cell hbk 2).trans rfl
  have d0 := blk_frozen hbk 0
  have d1 := blk_frozen hbk 1
  have d2 := blk_frozen hbk 2
  clear hb1 hr1 hg1 hbk
  go_wp2
  have hlo : w0.heap.size ≤ w.heap.size := HB.out.size
  exact bodyPost_ret (v := .agg #[.int .i64 1, .int .i64 0, .int .i64 x]) (results_single (r := .cell 4 40) rfl (.cell w.heap.size 40 _ (0, 0) _ rfl (blk_put (blk_put (blk_put HBK.out 0 _ rfl) 1 _ rfl) 2 _ rfl) Try.underlying40 rfl op_size .nil)) rfl ⟨rfl, ((HB1.out.setCell hlo _).setCell hlo _).setCell hlo _, blk_far (blk_far (blk_far H1.out hne.symm _) hne.symm _) hne.symm _, grown_far (grown_far (grown_far HG1.out (Nat.le_refl _) _ _) (Nat.le_refl _) _ _) (Nat.le_refl _) _ _⟩
set_option maxRecDepth 100000 in
theorem op_number4 (w0 w : World) (g : Nat) (A : Option Addr) (c : Nat) (l : List Int) (hC : Kd.C (Kd.int .u8) w0 A l.length l) (hc : l.length ≤ c) (hB : Below w0.heap.size w0 w) (hg : w0.heap.size ≤ g) (at_ : Int) (h : Rd w g A l.length c at_ false) (hs : 0 ≤ at_ + 4 ∧ at_ + 4 ≤ 9223372036854775807) (k : Nat) (x : Int) (hr : leb_Get.f k l at_ 4 false = some (x, 0)) :
    Calls Try.prog 36 #[.pointer (some ⟨g, 0, none⟩), .int .i64 4] w (OpPost w0 w g A l.length c (1, 0, x) (at_ + 4)) := by
  have HC := Aside0.mk hC
  have HCC := Aside0.mk hc
  have HR := Aside0.mk hr
  have HS := Aside0.mk hs
  have HB := Aside0.mk hB
  have HG := Aside0.mk hg
  have H := Aside0.mk h
  have hgl : g < w.heap.size := blk_lt h
  have hne : w.heap.size ≠ g := Nat.ne_of_gt hgl
  clear hB hg h hC hc hr hs
  go_enter Try.func36, Try.ntmps36
  go_wp2_with fail
  refine (number_calls w0 _ g A c l HC.out HCC.out (HB.out.trans ((below_alloc (Below.refl w.heap.size w) _).mono HB.out.size)) HG.out at_ false 4 HS.out (blk_alloc H.out _) k x 0 HR.out).mono ?_
  rintro e w1 ⟨rfl, hb1, hr1, hg1⟩
  have HB1 := Aside0.mk hb1
  have H1 := Aside0.mk (show Rd w1 g A l.length c (at_ + 4) false from hr1)
  have HG1 := Aside0.mk (World.grownBy.trans (grown_alloc (World.grownBy.refl w (some g)) (.cells #[.int .i64 0, .int .i64 0, .int .i64 0] 40)) hg1)
  have hbk := blk_grown (blk_new w (.cells #[.int .i64 0, .int .i64 0, .int .i64 0] 40)) hg1 (fun e => hne (Option.some.inj e))
  have HBK := Aside0.mk hbk
  have c0 : w1.cell? ⟨w.heap.size, 0, none⟩ = some (.int .i64 0) := (blk_cell hbk 0).trans rfl
  have c1 : w1.cell? ⟨w.heap.size, 1, none⟩ = some (.int .i64 0) := (blk_cell hbk 1).trans rfl
  have c2 : w1.cell? ⟨w.heap.size, 2, none⟩ = some (.int .i64 0) := (blk_cell hbk 2).trans rfl
  have d0 := blk_frozen hbk 0
  have d1 := blk_frozen hbk 1
  have d2 := blk_frozen hbk 2
  clear hb1 hr1 hg1 hbk
  go_wp2
  have hlo : w0.heap.size ≤ w.heap.size := HB.out.size
  exact bodyPost_ret (v := .agg #[.int .i64 1, .int .i64 0, .int .i64 x]) (results_single (r := .cell 4 40) rfl (.cell w.heap.size 40 _ (0, 0) _ rfl (blk_put (blk_put (blk_put HBK.out 0 _ rfl) 1 _ rfl) 2 _ rfl) Try.underlying40 rfl op_size .nil)) rfl ⟨rfl, ((HB1.out.setCell hlo _).setCell hlo _).setCell hlo _, blk_far (blk_far (blk_far H1.out hne.symm _) hne.symm _) hne.symm _, grown_far (grown_far (grown_far HG1.out (Nat.le_refl _) _ _) (Nat.le_refl _) _ _) (Nat.le_refl _) _ _⟩
set_option maxRecDepth 100000 in
theorem op_defCfa (w0 w : World) (g : Nat) (A : Option Addr) (c : Nat) (l : List Int) (hC : Kd.C (Kd.int .u8) w0 A l.length l) (hc : l.length ≤ c) (hB : Below w0.heap.size w0 w) (hg : w0.heap.size ≤ g) (at_ : Int) (h : Rd w g A l.length c at_ false) (x en y en2 : Int) (hr : leb_ReadUleb.f l at_ = some (x, en, 0)) (hr2 : leb_ReadUleb.f l en = some (y, en2, 0)) :
    Calls Try.prog 36 #[.pointer (some ⟨g, 0, none⟩), .int .i64 12] w (OpPost w0 w g A l.length c (2, x, y) en2) := by
  have HC := Aside0.mk hC
  have HCC := Aside0.mk hc
  have HR := Aside0.mk hr
  have HR2 := Aside0.mk hr2
  have HB := Aside0.mk hB
  have HG := Aside0.mk hg
  have H := Aside0.mk h
  have hgl : g < w.heap.size := blk_lt h
  have hne : w.heap.size ≠ g := Nat.ne_of_gt hgl
  clear hB hg h hC hc hr hr2
  go_enter Try.func36, Try.ntmps36
  go_wp2_with fail
  refine (uleb_calls w0 _ g A c l HC.out HCC.out (HB.out.trans ((below_alloc (Below.refl w.heap.size w) _).mono HB.out.size)) HG.out at_ false (blk_alloc H.out _) x en 0 HR.out).mono ?_
  rintro e w1 ⟨rfl, hb1, hr1, hg1⟩
  have HB1 := Aside0.mk hb1
  have H1 := Aside0.mk (show Rd w1 g A l.length c en false from hr1)
  have HG1 := Aside0.mk (World.grownBy.trans (grown_alloc (World.grownBy.refl w (some g)) (.cells #[.int .i64 0, .int .i64 0, .int .i64 0] 40)) hg1)
  have hbk := blk_grown (blk_new w (.cells #[.int .i64 0, .int .i64 0, .int .i64 0] 40)) hg1 (fun e => hne (Option.some.inj e))
  have HBK1 := Aside0.mk hbk
  clear hb1 hr1 hg1 hbk
  go_wp2_with fail
  refine (uleb_calls w0 _ g A c l HC.out HCC.out HB1.out HG.out en false H1.out y en2 0 HR2.out).mono ?_
  rintro e w2 ⟨rfl, hb2, hr2, hg2⟩
  have HB2 := Aside0.mk hb2
  have H2 := Aside0.mk (show Rd w2 g A l.length c en2 false from hr2)
  have HG2 := Aside0.mk (World.grownBy.trans HG1.out hg2)
  have hbk := blk_grown HBK1.out hg2 (fun e => hne (Option.some.inj e))
  have HBK := Aside0.mk hbk
  have c0 : w2.cell? ⟨w.heap.size, 0, none⟩ = some (.int .i64 0) := (blk_cell hbk 0).trans rfl
  have c1 : w2.cell? ⟨w.heap.size, 1, none⟩ = some (.int .i64 0) := (blk_cell hbk 1).trans rfl
  have c2 : w2.cell? ⟨w.heap.size, 2, none⟩ = some (.int .i64 0) := (blk_cell hbk 2).trans rfl
  have d0 := blk_frozen hbk 0
  have d1 := blk_frozen hbk 1
  have d2 := blk_frozen hbk 2
  clear hb2 hr2 hg2 hbk
  go_wp2
  have hlo : w0.heap.size ≤ w.heap.size := HB.out.size
  exact bodyPost_ret (v := .agg #[.int .i64 2, .int .i64 x, .int .i64 y]) (results_single (r := .cell 4 40) rfl (.cell w.heap.size 40 _ (0, 0) _ rfl (blk_put (blk_put (blk_put HBK.out 0 _ rfl) 1 _ rfl) 2 _ rfl) Try.underlying40 rfl op_size .nil)) rfl ⟨rfl, ((HB2.out.setCell hlo _).setCell hlo _).setCell hlo _, blk_far (blk_far (blk_far H2.out hne.symm _) hne.symm _) hne.symm _, grown_far (grown_far (grown_far HG2.out (Nat.le_refl _) _ _) (Nat.le_refl _) _ _) (Nat.le_refl _) _ _⟩
theorem facV_ok {n : Int} (h0 : -1099511627776 ≤ n) (h1 : n ≤ 1099511627776) : facV n false = (-8 * n, false) := by
  unfold facV
  rw [if_neg (by omega), if_neg (by omega)]
set_option maxRecDepth 100000 in
theorem op_offset (w0 w : World) (g : Nat) (A : Option Addr) (c : Nat) (l : List Int) (hC : Kd.C (Kd.int .u8) w0 A l.length l) (hc : l.length ≤ c) (hB : Below w0.heap.size w0 w) (hg : w0.heap.size ≤ g) (at_ : Int) (h : Rd w g A l.length c at_ false) (b r : Int) (hb : b = 128 + r) (hn : 0 ≤ r ∧ r < 64) (x en : Int) (hr : leb_ReadUleb.f l at_ = some (x, en, 0)) (hx : -1099511627776 ≤ x ∧ x ≤ 1099511627776) :
    Calls Try.prog 36 #[.pointer (some ⟨g, 0, none⟩), .int .i64 b] w (OpPost w0 w g A l.length c (5, r, -8 * x) en) := by
  have HC := Aside0.mk hC
  have HCC := Aside0.mk hc
  have HR := Aside0.mk hr
  have HF := Aside0.mk (facV_ok hx.1 hx.2)
  have fq : b / 64 = 2 := by omega
  have fb : Go.bits .and .i64 b 63 = r := by rw [b63]; omega
  have HB := Aside0.mk hB
  have HG := Aside0.mk hg
  have H := Aside0.mk h
  have hgl : g < w.heap.size := blk_lt h
  have hne : w.heap.size ≠ g := Nat.ne_of_gt hgl
  clear hB hg h hC hc hr hb hn hx
  go_enter Try.func36, Try.ntmps36
  go_wp2_with fail
  refine (uleb_calls w0 _ g A c l HC.out HCC.out (HB.out.trans ((below_alloc (Below.refl w.heap.size w) _).mono HB.out.size)) HG.out at_ false (blk_alloc H.out _) x en 0 HR.out).mono ?_
  rintro e w1 ⟨rfl, hb1, hr1, hg1⟩
  have HB1 := Aside0.mk hb1
  have H1 := Aside0.mk (show Rd w1 g A l.length c en false from hr1)
  have HG1 := Aside0.mk (World.grownBy.trans (grown_alloc (World.grownBy.refl w (some g)) (.cells #[.int .i64 0, .int .i64 0, .int .i64 0] 40)) hg1)
  have hbk := blk_grown (blk_new w (.cells #[.int .i64 0, .int .i64 0, .int .i64 0] 40)) hg1 (fun e => hne (Option.some.inj e))
  have HBK1 := Aside0.mk hbk
  clear hb1 hr1 hg1 hbk
  go_wp2_with fail
  refine (factored_calls w0 _ g A l.length c HB1.out HG.out en false H1.out x).mono ?_
  rw [HF.out]
  rintro e w2 ⟨rfl, hb2, hr2, hg2⟩
  have HB2 := Aside0.mk hb2
  have H2 := Aside0.mk (show Rd w2 g A l.length c en false from hr2)
  have HG2 := Aside0.mk (World.grownBy.trans HG1.out hg2)
  have hbk := blk_grown HBK1.out hg2 (fun e => hne (Option.some.inj e))
  have HBK := Aside0.mk hbk
  have c0 : w2.cell? ⟨w.heap.size, 0, none⟩ = some (.int .i64 0) := (blk_cell hbk 0).trans rfl
  have c1 : w2.cell? ⟨w.heap.size, 1, none⟩ = some (.int .i64 0) := (blk_cell hbk 1).trans rfl
  have c2 : w2.cell? ⟨w.heap.size, 2, none⟩ = some (.int .i64 0) := (blk_cell hbk 2).trans rfl
  have d0 := blk_frozen hbk 0
  have d1 := blk_frozen hbk 1
  have d2 := blk_frozen hbk 2
  clear hb2 hr2 hg2 hbk
  go_wp2
  have hlo : w0.heap.size ≤ w.heap.size := HB.out.size
  exact bodyPost_ret (v := .agg #[.int .i64 5, .int .i64 r, .int .i64 (-8 * x)]) (results_single (r := .cell 4 40) rfl (.cell w.heap.size 40 _ (0, 0) _ rfl (blk_put (blk_put (blk_put HBK.out 0 _ rfl) 1 _ rfl) 2 _ rfl) Try.underlying40 rfl op_size .nil)) rfl ⟨rfl, ((HB2.out.setCell hlo _).setCell hlo _).setCell hlo _, blk_far (blk_far (blk_far H2.out hne.symm _) hne.symm _) hne.symm _, grown_far (grown_far (grown_far HG2.out (Nat.le_refl _) _ _) (Nat.le_refl _) _ _) (Nat.le_refl _) _ _⟩
set_option maxRecDepth 100000 in
theorem op_offset17 (w0 w : World) (g : Nat) (A : Option Addr) (c : Nat) (l : List Int) (hC : Kd.C (Kd.int .u8) w0 A l.length l) (hc : l.length ≤ c) (hB : Below w0.heap.size w0 w) (hg : w0.heap.size ≤ g) (at_ : Int) (h : Rd w g A l.length c at_ false) (r en x en2 : Int) (hr : leb_ReadUleb.f l at_ = some (r, en, 0)) (hr2 : leb_ReadSleb.f l en = some (x, en2, 0)) (hx : -1099511627776 ≤ x ∧ x ≤ 1099511627776) :
    Calls Try.prog 36 #[.pointer (some ⟨g, 0, none⟩), .int .i64 17] w (OpPost w0 w g A l.length c (5, r, -8 * x) en2) := by
  have HC := Aside0.mk hC
  have HCC := Aside0.mk hc
  have HR := Aside0.mk hr
  have HR2 := Aside0.mk hr2
  have HF := Aside0.mk (facV_ok hx.1 hx.2)
  have HB := Aside0.mk hB
  have HG := Aside0.mk hg
  have H := Aside0.mk h
  have hgl : g < w.heap.size := blk_lt h
  have hne : w.heap.size ≠ g := Nat.ne_of_gt hgl
  clear hB hg h hC hc hr hr2 hx
  go_enter Try.func36, Try.ntmps36
  go_wp2_with fail
  refine (uleb_calls w0 _ g A c l HC.out HCC.out (HB.out.trans ((below_alloc (Below.refl w.heap.size w) _).mono HB.out.size)) HG.out at_ false (blk_alloc H.out _) r en 0 HR.out).mono ?_
  rintro e w1 ⟨rfl, hb1, hr1, hg1⟩
  have HB1 := Aside0.mk hb1
  have H1 := Aside0.mk (show Rd w1 g A l.length c en false from hr1)
  have HG1 := Aside0.mk (World.grownBy.trans (grown_alloc (World.grownBy.refl w (some g)) (.cells #[.int .i64 0, .int .i64 0, .int .i64 0] 40)) hg1)
  have hbk := blk_grown (blk_new w (.cells #[.int .i64 0, .int .i64 0, .int .i64 0] 40)) hg1 (fun e => hne (Option.some.inj e))
  have HBK1 := Aside0.mk hbk
  have f0 : w1.cell? ⟨g, 0, none⟩ = some (.slice A l.length c) := (blk_cell H1.out 0).trans rfl
  have f1 : w1.cell? ⟨g, 1, none⟩ = some (.int .i64 en) := (blk_cell H1.out 1).trans rfl
  clear hb1 hr1 hg1 hbk
  go_wp2_with fail
  refine start_ (n := 16) (S := fun u => u.cell? ⟨g, 0, none⟩ = some (.slice A l.length c) ∧ u.cell? ⟨g, 1, none⟩ = some (.int .i64 en)) (ds := [8]) #[false, false, false, false, false, false, false, false, false, false, false, false, false, false, false, false] (by kernel_rfl) rfl rfl ?_ (fun hHeld => ?_)
  case refine_1 => exact ⟨by go_simp, by go_simp⟩
  refine pure_ (i := 0) (N := some 105) (v := ?_) (a' := ?_) #[true, false, false, false, false, false, false, false, false, false, false, false, false, false, false, false] rfl rfl (by kernel_rfl) (fun _ _ _ h => h) (Or.inl ⟨by rfl, ?_⟩) ?_ ?_
  rotate_left
  · intro u
    go_simp
    with_reducible rfl
  rotate_left
  · simp only [Act.put, List.setIfInBounds_toArray, List.set_cons_zero, List.set_cons_succ, i64_w, i32_w]
    rfl
  refine pure_ (i := 1) (N := some 106) (v := ?_) (a' := ?_) #[true, true, false, false, false, false, false, false, false, false, false, false, false, false, false, false] rfl rfl (by kernel_rfl) (fun _ _ _ h => h) (Or.inl ⟨by rfl, ?_⟩) ?_ ?_
  rotate_left
  · intro u
    go_simp
    with_reducible rfl
  rotate_left
  · simp only [Act.put, List.setIfInBounds_toArray, List.set_cons_zero, List.set_cons_succ, i64_w, i32_w]
    rfl
  refine pure_ (i := 2) (N := some 107) (v := ?_) (a' := ?_) #[true, true, true, false, false, false, false, false, false, false, false, false, false, false, false, false] rfl rfl (by kernel_rfl) (fun _ _ _ h => h) (Or.inl ⟨by rfl, ?_⟩) ?_ ?_
  rotate_left
  · intro u
    go_simp
    with_reducible rfl
  rotate_left
  · simp only [Act.put, List.setIfInBounds_toArray, List.set_cons_zero, List.set_cons_succ, i64_w, i32_w]
    rfl
  refine take_ (i := 3) (N := some 108) (v := ?_) (a' := ?_) #[true, true, true, true, false, false, false, false, false, false, false, false, false, false, false, false] rfl rfl (by kernel_rfl) (fun _ _ _ h => h) (Or.inl ⟨by rfl, ?_⟩) hHeld ?_ ?_
  rotate_left
  · rintro u ⟨s0, s1⟩
    go_simp
    with_reducible rfl
  rotate_left
  · simp only [Act.put, List.setIfInBounds_toArray, List.set_cons_zero, List.set_cons_succ, i64_w, i32_w]
    rfl
  refine pure_ (i := 4) (N := some 109) (v := ?_) (a' := ?_) #[true, true, true, true, true, false, false, false, false, false, false, false, false, false, false, false] rfl rfl (by kernel_rfl) (fun _ _ _ h => h) (Or.inl ⟨by rfl, ?_⟩) ?_ ?_
  rotate_left
  · intro u
    go_simp
    with_reducible rfl
  rotate_left
  · simp only [Act.put, List.setIfInBounds_toArray, List.set_cons_zero, List.set_cons_succ, i64_w, i32_w]
    rfl
  refine pure_ (i := 5) (N := some 110) (v := ?_) (a' := ?_) #[true, true, true, true, true, true, false, false, false, false, false, false, false, false, false, false] rfl rfl (by kernel_rfl) (fun _ _ _ h => h) (Or.inl ⟨by rfl, ?_⟩) ?_ ?_
  rotate_left
  · intro u
    go_simp
    with_reducible rfl
  rotate_left
  · simp only [Act.put, List.setIfInBounds_toArray, List.set_cons_zero, List.set_cons_succ, i64_w, i32_w]
    rfl
  refine pure_ (i := 6) (N := some 111) (v := ?_) (a' := ?_) #[true, true, true, true, true, true, true, false, false, false, false, false, false, false, false, false] rfl rfl (by kernel_rfl) (fun _ _ _ h => h) (Or.inl ⟨by rfl, ?_⟩) ?_ ?_
  rotate_left
  · intro u
    go_simp
    with_reducible rfl
  rotate_left
  · simp only [Act.put, List.setIfInBounds_toArray, List.set_cons_zero, List.set_cons_succ, i64_w, i32_w]
    rfl
  refine take_ (i := 7) (N := some 112) (v := ?_) (a' := ?_) #[true, true, true, true, true, true, true, true, false, false, false, false, false, false, false, false] rfl rfl (by kernel_rfl) (fun _ _ _ h => h) (Or.inl ⟨by rfl, ?_⟩) hHeld ?_ ?_
  rotate_left
  · rintro u ⟨s0, s1⟩
    go_simp
    with_reducible rfl
  rotate_left
  · simp only [Act.put, List.setIfInBounds_toArray, List.set_cons_zero, List.set_cons_succ, i64_w, i32_w]
    rfl
  refine last_ (i := 8) (N := some 113) #[true, true, true, true, true, true, true, true, true, false, false, false, false, false, false, false] rfl rfl (by kernel_rfl) (by decide) (fun K hK => ?_)
  refine goes_ Try.func49 (by kernel_rfl) rfl #[.slice A l.length c, .int .i64 en] (by rfl) rfl rfl (by (try simp only [List.map_toArray, List.map_cons, List.map_nil]); first | done | rfl) ?_
  refine (leb_ReadSleb.calls A c l en x en2 0 _ (Kd.C_below HC.out (below_drew HB1.out)) HCC.out HR2.out).mono ?_
  rintro e w2 ⟨rfl, hw2⟩
  refine ⟨_, rfl, ?_⟩
  have HB2 := Aside0.mk (below_step (below_drew HB1.out) hw2)
  have HG2 := Aside0.mk (grown_below' (grown_drew HG1.out) hw2)
  have H2 := Aside0.mk (blk_below (blk_drew H1.out) hw2)
  have HBK2 := Aside0.mk (blk_below (blk_drew HBK1.out) hw2)
  have q0 : w2.cell? ⟨g, 1, none⟩ = some (.int .i64 en) := (blk_cell H2.out 1).trans rfl
  have q1 : w2.cell? ⟨g, 2, none⟩ = some (.bool false) := (blk_cell H2.out 2).trans rfl
  have q2 := blk_frozen H2.out 1
  have q3 := blk_frozen H2.out 2
  clear hw2 hHeld
  refine hK.out _ _ ?_
  clear hK K
  refine norm_ (a' := ?_) ?_ ?_
  rotate_left
  · show Act.put _ (some 113) _ = _
    simp only [Act.put, List.setIfInBounds_toArray, List.set_cons_zero, List.set_cons_succ, i64_w, i32_w]
    rfl
  refine pure_ (i := 9) (N := some 104) (v := ?_) (a' := ?_) #[true, true, true, true, true, true, true, true, true, true, false, false, false, false, false, false] rfl rfl (by kernel_rfl) (fun _ _ _ h => h) (Or.inl ⟨by rfl, ?_⟩) ?_ ?_
  rotate_left
  · intro u
    go_simp
    with_reducible rfl
  rotate_left
  · simp only [Act.put, List.setIfInBounds_toArray, List.set_cons_zero, List.set_cons_succ, i64_w, i32_w]
    rfl
  refine pure_ (i := 10) (N := some 114) (v := ?_) (a' := ?_) #[true, true, true, true, true, true, true, true, true, true, true, false, false, false, false, false] rfl rfl (by kernel_rfl) (fun _ _ _ h => h) (Or.inl ⟨by rfl, ?_⟩) ?_ ?_
  rotate_left
  · intro u
    go_simp
    with_reducible rfl
  rotate_left
  · simp only [Act.put, List.setIfInBounds_toArray, List.set_cons_zero, List.set_cons_succ, i64_w, i32_w]
    rfl
  refine pure_ (i := 11) (N := some 115) (v := ?_) (a' := ?_) #[true, true, true, true, true, true, true, true, true, true, true, true, false, false, false, false] rfl rfl (by kernel_rfl) (fun _ _ _ h => h) (Or.inl ⟨by rfl, ?_⟩) ?_ ?_
  rotate_left
  · intro u
    go_simp
    with_reducible rfl
  rotate_left
  · simp only [Act.put, List.setIfInBounds_toArray, List.set_cons_zero, List.set_cons_succ, i64_w, i32_w]
    rfl
  refine pure_ (i := 12) (N := some 116) (v := ?_) (a' := ?_) #[true, true, true, true, true, true, true, true, true, true, true, true, true, false, false, false] rfl rfl (by kernel_rfl) (fun _ _ _ h => h) (Or.inl ⟨by rfl, ?_⟩) ?_ ?_
  rotate_left
  · intro u
    go_simp
    with_reducible rfl
  rotate_left
  · simp only [Act.put, List.setIfInBounds_toArray, List.set_cons_zero, List.set_cons_succ, i64_w, i32_w]
    rfl
  refine pure_ (i := 13) (N := some 8) (v := ?_) (a' := ?_) #[true, true, true, true, true, true, true, true, true, true, true, true, true, true, false, false] rfl rfl (by kernel_rfl) (fun _ _ _ h => h) (Or.inl ⟨by rfl, ?_⟩) ?_ ?_
  rotate_left
  · intro u
    go_simp
    with_reducible rfl
  rotate_left
  · simp only [Act.put, List.setIfInBounds_toArray, List.set_cons_zero, List.set_cons_succ, i64_w, i32_w]
    rfl
  refine pure_ (i := 14) (N := some 9) (v := ?_) (a' := ?_) #[true, true, true, true, true, true, true, true, true, true, true, true, true, true, true, false] rfl rfl (by kernel_rfl) (fun _ _ _ h => h) (Or.inl ⟨by rfl, ?_⟩) ?_ ?_
  rotate_left
  · intro u
    go_simp
    with_reducible rfl
  rotate_left
  · simp only [Act.put, List.setIfInBounds_toArray, List.set_cons_zero, List.set_cons_succ, i64_w, i32_w]
    rfl
  refine pure_ (i := 15) (N := some 10) (v := ?_) (a' := ?_) #[true, true, true, true, true, true, true, true, true, true, true, true, true, true, true, true] rfl rfl (by kernel_rfl) (fun _ _ _ h => h) (Or.inl ⟨by rfl, ?_⟩) ?_ ?_
  rotate_left
  · intro u
    go_simp
    with_reducible rfl
  rotate_left
  · simp only [Act.put, List.setIfInBounds_toArray, List.set_cons_zero, List.set_cons_succ, i64_w, i32_w]
    rfl
  refine done_ (by kernel_rfl) ?_
  go_wp2_with fail
  refine (factored_calls w0 _ g A l.length c ((HB2.out.setCell HG.out _).setCell HG.out _) HG.out en2 false (rd_put H2.out false en2) x).mono ?_
  rw [HF.out]
  rintro e w3 ⟨rfl, hb3, hr3, hg3⟩
  have HB3 := Aside0.mk hb3
  have H3 := Aside0.mk (show Rd w3 g A l.length c en2 false from hr3)
  have HG3 := Aside0.mk (World.grownBy.trans (grown_set' (grown_set' HG2.out _ _) _ _) hg3)
  have hbk := blk_grown (blk_far (blk_far HBK2.out hne _) hne _) hg3 (fun e => hne (Option.some.inj e))
  have HBK := Aside0.mk hbk
  have c0 : w3.cell? ⟨w.heap.size, 0, none⟩ = some (.int .i64 0) := (blk_cell hbk 0).trans rfl
  have c1 : w3.cell? ⟨w.heap.size, 1, none⟩ = some (.int .i64 0) := (blk_cell hbk 1).trans rfl
  have c2 : w3.cell? ⟨w.heap.size, 2, none⟩ = some (.int .i64 0) := (blk_cell hbk 2).trans rfl
  have d0 := blk_frozen hbk 0
  have d1 := blk_frozen hbk 1
  have d2 := blk_frozen hbk 2
  clear hb3 hr3 hg3 hbk
  go_wp2
  have hlo : w0.heap.size ≤ w.heap.size := HB.out.size
  exact bodyPost_ret (v := .agg #[.int .i64 5, .int .i64 r, .int .i64 (-8 * x)]) (results_single (r := .cell 4 40) rfl (.cell w.heap.size 40 _ (0, 0) _ rfl (blk_put (blk_put (blk_put HBK.out 0 _ rfl) 1 _ rfl) 2 _ rfl) Try.underlying40 rfl op_size .nil)) rfl ⟨rfl, ((HB3.out.setCell hlo _).setCell hlo _).setCell hlo _, blk_far (blk_far (blk_far H3.out hne.symm _) hne.symm _) hne.symm _, grown_far (grown_far (grown_far HG3.out (Nat.le_refl _) _ _) (Nat.le_refl _) _ _) (Nat.le_refl _) _ _⟩

end Go.Proofs.Ytngddlihppomhaa.CfaRd
