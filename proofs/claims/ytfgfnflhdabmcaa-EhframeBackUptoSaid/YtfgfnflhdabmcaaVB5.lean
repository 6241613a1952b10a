/- Lemmas and contracts, one text behind the other: what the row of this claim needs; no conditions beyond those that each theorem names. -/
import Derived.Great.Frames
import Derived.Recover
import Derived.Test.YtfgfnflhdabmcaaVB4
set_option linter.unusedVariables false
set_option linter.unusedSimpArgs false
set_option maxRecDepth 100000
section
namespace Go.Proofs.Ytfgfnflhdabmcaa.EhRd
open Go.RowKit Go.Proofs.Ytfgfnflhdabmcaa.G Go.Proofs.YtfgfnflhdabmcaaW.PrintWords Go.Proofs.YtfgfnflhdabmcaaW.PrintLast Go.Proofs.YtfgfnflhdabmcaaW.PrintMore
open Go.Proofs.Ytfgfnflhdabmcaa.Own
def gaveUp : List PanicEntry := [{ v := .iface 30 (.int .i64 140), recovered := false }]
theorem fail_no (g : Nat) (w : World) : Calls Try.prog 55 #[.pointer (some ⟨g, 0, none⟩), .bool false] w fun e w' => e = .returned (.tuple #[]) ∧ w' = w := by
 go_enter Try.func55, Try.ntmps55
 go_wp2
 go_end0
 exact ⟨rfl, rfl⟩
theorem fail_yes (g : Nat) (w : World) : Calls Try.prog 55 #[.pointer (some ⟨g, 0, none⟩), .bool true] w fun e w' => e = .panicked gaveUp ∧ w' = w := by
 have hp : ∀ W : World, Sem.run Try.prog (Instr.panic (.iface 30 (.int .i64 140))) W = .halt (.panic (.iface 30 (.int .i64 140))) W := fun _ => rfl
 go_enter Try.func55, Try.ntmps55
 go_wp2
 exact ⟨rfl, rfl, rfl⟩
theorem uleb_ok (w : World) (g : Nat) (A0 : Option Addr) (c0 : Nat) (l0 : List Int) (hC : Kd.C (Kd.int .u8) w A0 l0.length l0) (hc : l0.length ≤ c0) (at_ n en : Int) (hr : leb_ReadUleb.f l0 at_ = some (n, en, 0)) :
    Calls Try.prog 76 #[.pointer (some ⟨g, 0, none⟩), .slice A0 l0.length c0, .int .i64 at_] w fun e w' => e = .returned (.tuple #[.int .i64 n, .int .i64 en]) ∧ Below w.heap.size w w' := by
 have HC := am hC
 have HCC := am hc
 have HR := am hr
 clear hC hc hr
 go_enter Try.func76, Try.ntmps76
 go_wp2_with fail
 refine (leb_ReadUleb.calls A0 c0 l0 at_ n en 0 _ HC.out HCC.out HR.out).mono ?_
 rintro e w1 ⟨rfl, hd⟩
 have HD := am hd
 clear hd
 go_wp2_with fail
 refine (fail_no g w1).mono ?_
 rintro e w2 ⟨rfl, rfl⟩
 go_wp2
 go_ret2
 exact ⟨rfl, HD.out⟩
theorem sleb_ok (w : World) (g : Nat) (A0 : Option Addr) (c0 : Nat) (l0 : List Int) (hC : Kd.C (Kd.int .u8) w A0 l0.length l0) (hc : l0.length ≤ c0) (at_ n en : Int) (hr : leb_ReadSleb.f l0 at_ = some (n, en, 0)) :
    Calls Try.prog 77 #[.pointer (some ⟨g, 0, none⟩), .slice A0 l0.length c0, .int .i64 at_] w fun e w' => e = .returned (.tuple #[.int .i64 n, .int .i64 en]) ∧ Below w.heap.size w w' := by
 have HC := am hC
 have HCC := am hc
 have HR := am hr
 clear hC hc hr
 go_enter Try.func77, Try.ntmps77
 go_wp2_with fail
 refine (leb_ReadSleb.calls A0 c0 l0 at_ n en 0 _ HC.out HCC.out HR.out).mono ?_
 rintro e w1 ⟨rfl, hd⟩
 have HD := am hd
 clear hd
 go_wp2_with fail
 refine (fail_no g w1).mono ?_
 rintro e w2 ⟨rfl, rfl⟩
 go_wp2
 go_ret2
 exact ⟨rfl, HD.out⟩
def trim (l : List S105) : List S105 := (l.reverse.dropWhile fun o => o.f0 == 0).reverse
theorem trim_snoc (l : List S105) (o : S105) : trim (l ++ [o]) = if o.f0 = 0 then trim l else l ++ [o] := by
 unfold trim
 rw [List.reverse_append]
 by_cases h : o.f0 = 0
 ·
  simp [h]
 simp [h]
theorem trim_take (l : List S105) (n : Nat) (h : n < l.length) : trim (l.take (n + 1)) = if (l[n]).f0 = 0 then trim (l.take n) else l.take (n + 1) := by
 rw [← List.take_append_getElem h, trim_snoc]
theorem ops_ok (w : World) (g : Nat) (A0 : Option Addr) (c0 : Nat) (l0 : List Int) (hC : Kd.C (Kd.int .u8) w A0 l0.length l0) (hc : l0.length ≤ c0) (l : List S105) (hr : cfa_Read.f l0 = some (l, 0)) (hl : l.length ≤ 100000) :
    Calls Try.prog 78 #[.pointer (some ⟨g, 0, none⟩), .slice A0 l0.length c0] w fun e w' => ∃ v : Value, e = .returned v ∧ Kd.R k105 105 w' w.heap.size (fun _ => True) v (trim l) ∧ Below w.heap.size w w' := by
 have HC := am hC
 have HCC := am hc
 have HR := am hr
 have HL := am hl
 clear hC hc hr hl
 go_enter Try.func78, Try.ntmps78
 go_wp2_with fail
 refine (cfa_Read.calls A0 c0 l0 l 0 _ HC.out HCC.out HR.out).mono ?_
 rintro e w1 ⟨v, rfl, hv, hd⟩
 have HD := am hd
 have HV := am hv
 clear hd hv
 go_wp2_with fail
 refine (fail_no g w1).mono ?_
 rintro e w2 ⟨rfl, rfl⟩
 go_wp2
 go_loopg [5] l.length (fun kq v5 w' => w' = w2 ∧ kq ≤ l.length ∧ Aside0 (trim (l.take kq) = trim l) ∧ Aside0 (Kd.R k105 105 w2 w.heap.size (fun _ => True) v5 (l.take kq)))
 case atStart => exact ⟨rfl, Nat.le_refl _, ⟨by rw [List.take_length]⟩, ⟨by rw [List.take_length]; exact HV.out⟩⟩
 case round =>
  obtain ⟨rfl, hle, HT, HV5⟩ := hrel
  have hll := HL.out
  obtain ⟨xs, hxs⟩ : ∃ xs, xs = l.take gk := ⟨_, rfl⟩
  have hxl : xs.length = gk := by rw [hxs, List.length_take]; omega
  rw [← hxs] at HV5 HT
  obtain ⟨A5, c5, e5⟩ := Kd.R_slice HV5.out
  subst e5
  cases gk with
  | zero =>
   have c2b0 : decide (0 < (xs.length : Int)) = false := decide_eq_false (by omega)
   have c2b1 : decide (0 < xs.length) = false := decide_eq_false (by omega)
   clear hll hle
   go_wp2
   go_ret
   have hz : xs = [] := List.eq_nil_of_length_eq_zero hxl
   refine ⟨_, rfl, ?_, HD.out⟩
   rw [← HT.out]
   subst hz
   exact HV5.out
  | succ k1 =>
   have hlt : k1 < l.length := hle
   have hw : wrap64 ((xs.length : Int) - 1) = (k1 : Int) := by unfold wrap64; omega
   have hwi : IntKind.i64.wrap ((xs.length : Int) - 1) = (k1 : Int) := by rw [IntKind.wrap_i64]; omega
   have c2b0 : decide (0 < (xs.length : Int)) = true := decide_eq_true (by omega)
   have c2b1 : decide (0 < xs.length) = true := decide_eq_true (by omega)
   have p101 : 0 ≤ (k1 : Int) := by omega
   have q101 : (k1 : Int) < (xs.length : Int) := by omega
   obtain ⟨ad101, e101, hx0, hx1, hx2⟩ := at_T105 (Kd.R_reads' HV5.out).2.2 (k1 : Int) p101 q101
   cases e101
   rw [Int.toNat_natCast] at hx0 hx1 hx2
   have hrd : rd_T105 xs (k1 : Int) = l[k1] := by
    show xs.getD (k1 : Int).toNat _ = _
    have : (k1 : Int).toNat = k1 := by omega
    rw [this, hxs, List.getD_eq_getElem?_getD, List.getElem?_take]
    simp [hlt]
   have htr := trim_take l k1 hlt
   rw [← hxs, HT.out] at htr
   obtain ⟨o, ho⟩ : ∃ o, l[k1] = o := ⟨_, rfl⟩
   rw [ho] at htr hrd
   have HTR := am htr
   have HRD := am hrd
   have HXS := am hxs
   have HLT := am hlt
   have HXL := am hxl
   clear htr hrd hxs hll ho hle hlt hxl
   by_cases c6 : (rd_T105 xs (k1 : Int)).f0 = 0
   rotate_left
   ·
    have c6b0 : ((rd_T105 xs (k1 : Int)).f0 == 0) = false := beq_eq_false_iff_ne.mpr c6
    have HC6 := am c6
    clear c6
    replace p101 := eq_true p101
    replace q101 := eq_true q101
    go_wp2
    go_ret
    refine ⟨_, rfl, ?_, HD.out⟩
    have hxx : trim l = xs := by rw [HTR.out, if_neg (by rw [← HRD.out]; exact HC6.out), HXS.out]
    rw [hxx]
    exact HV5.out
   have c6b0 : ((rd_T105 xs (k1 : Int)).f0 == 0) = true := beq_iff_eq.mpr c6
   have HC6 := am c6
   have q10 : (k1 : Int) ≤ (xs.length : Int) := by omega
   obtain ⟨i010, hi010, _, hsz10, _⟩ := info_parts info105
   have hroom10 : xs.length ≤ c5 := (Kd.R_reads' HV5.out).2.1
   have hcut10 := cut_to (P := Try.prog) 44 105 .i64 Try.underlying44 hi010 (some ad101) xs.length c5 (k1 : Int) p101 q10 hroom10
   have hr10 := Kd.R_take (m := (k1 : Int).toNat) HV5.out (by omega)
   have hk1 : (k1 : Int).toNat = k1 := by omega
   have htk : xs.take k1 = l.take k1 := by rw [HXS.out, List.take_take]; congr 1; omega
   rw [hk1] at hr10 hcut10
   have HO := am hr10
   have HTK := am htk
   clear hr10 hroom10 hi010 hsz10 c6 hk1 htk
   replace p101 := eq_true p101
   replace q101 := eq_true q101
   replace q10 := eq_true q10
   go_wp2
   go_roundg k1
   case measure => omega
   case rel =>
    have ht : trim (l.take k1) = trim l := by rw [HTR.out, if_pos (by rw [← HRD.out]; exact HC6.out)]
    exact ⟨rfl, Nat.le_of_lt HLT.out, ⟨ht⟩, ⟨by rw [← HTK.out]; exact HO.out⟩⟩
end Go.Proofs.Ytfgfnflhdabmcaa.EhRd
end
section
namespace Go.Proofs.Ytfgfnflhdabmcaa.EhRd
open Go.RowKit Go.Proofs.Ytfgfnflhdabmcaa.G Go.Proofs.YtfgfnflhdabmcaaW.PrintWords Go.Proofs.YtfgfnflhdabmcaaW.PrintLast Go.Proofs.YtfgfnflhdabmcaaW.PrintMore
open Go.Proofs.Ytfgfnflhdabmcaa.Own Go.ChangeMaps
open Go.Maps (Keyed)
theorem info5 : ∃ i, Try.prog.info? 5 = some i ∧ i.size = 1 := by
  obtain ⟨i, hi, _, hs, _⟩ := info_parts Go.Proofs.Ytfgfnflhdabmcaa.G.info5
  exact ⟨i, hi, hs⟩
theorem cut_mid1 (A : Option Addr) (c : Nat) (b : List Int) (i j : Int) (lo hi : Nat) (e1 : i = lo) (e2 : j = hi) (h1 : lo ≤ hi) (h2 : hi ≤ b.length) (hc : b.length ≤ c) :
    ∃ A1 c1, ((b.take hi).drop lo).length ≤ c1 ∧ (∀ W : World, (Instr.slice 28 (.slice A b.length c) (some (.int .i64 i)) (some (.int .i64 j)) none).run Try.prog W = .ok (.slice A1 ((b.take hi).drop lo).length c1) W) ∧ ∀ W : World, Kd.C (Kd.int .u8) W A b.length b → Kd.C (Kd.int .u8) W A1 ((b.take hi).drop lo).length ((b.take hi).drop lo) := by
  obtain ⟨io, hio, hsz⟩ := info5
  have hl : ((b.take hi).drop lo).length = hi - lo := by rw [List.length_drop, List.length_take]; omega
  subst e1 e2
  refine ⟨_, c - lo, by omega, ?_, fun W h => Kd.C_mid h h1 h2 hc⟩
  have := cut_mid (P := Try.prog) 28 5 .i64 .i64 Try.underlying28 hio 1 hsz A b.length c (lo : Int) (hi : Int) (by omega) (by omega) (by omega) hc
  rw [hl]
  simpa [show (Kd.int IntKind.u8).sz = 1 from rfl] using this
theorem cut_from1 (A : Option Addr) (c : Nat) (b : List Int) (i : Int) (lo : Nat) (e1 : i = lo) (h1 : lo ≤ b.length) (hc : b.length ≤ c) :
    ∃ A1 c1, (b.drop lo).length ≤ c1 ∧ (∀ W : World, (Instr.slice 28 (.slice A b.length c) (some (.int .i64 i)) none none).run Try.prog W = .ok (.slice A1 (b.drop lo).length c1) W) ∧ ∀ W : World, Kd.C (Kd.int .u8) W A b.length b → Kd.C (Kd.int .u8) W A1 (b.drop lo).length (b.drop lo) := by
  obtain ⟨io, hio, hsz⟩ := info5
  subst e1
  refine ⟨_, c - lo, by rw [List.length_drop]; omega, ?_, fun W h => Kd.C_drop h h1 hc⟩
  have := cut_from (P := Try.prog) 28 5 .i64 Try.underlying28 hio 1 hsz A b.length c (lo : Int) (by omega) (by omega)
  rw [List.length_drop]
  simpa [show (Kd.int IntKind.u8).sz = 1 from rfl] using this
def lookI (m : List (Int × Int)) (s : Int) : Option Int := (m.find? (fun p => p.1 == s)).map (·.2)
def intF (m : List (Int × Int)) : Lit → Option Int
  | .int .i64 s => lookI m s
  | _ => none
theorem lookI_cons (m : List (Int × Int)) (s s' : Int) (c : Int) : lookI ((s, c) :: m) s' = if s = s' then some c else lookI m s' := by
  unfold lookI
  by_cases h : s = s'
  · subst h
    simp
  · rw [List.find?_cons_of_neg (by simpa using h), if_neg h]
theorem putF_intF (m : List (Int × Int)) (s : Int) (c : Int) : putF (intF m) (.int .i64 s) c = intF ((s, c) :: m) := by
  funext k
  unfold putF
  by_cases h : k = .int .i64 s
  · subst h
    rw [if_pos rfl]
    simp [intF, lookI_cons]
  · rw [if_neg h]
    cases k <;> simp only [intF]
    rename_i q s'
    cases q <;> simp only [intF]
    rw [lookI_cons, if_neg (fun e => h (by rw [e]))]
theorem intF_nil : intF [] = fun _ => none := by
  funext k
  cases k <;> simp only [intF]
  rename_i q s
  cases q <;> simp [intF, lookI]
theorem law : Keyed Try.prog 3 := Go.Maps.int_keyed Try.underlying3
def Cells (w : World) (g m : Nat) (A0 : Option Addr) (n0 c0 : Nat) (addr : Int) (vc vf : Value) : Prop := w.heap[g]? = some (.cells #[.slice A0 n0 c0, .int .i64 addr, vc, vf, .map (some m)] 101 (0, 0))
structure StV (w0 w : World) (g m : Nat) (A0 : Option Addr) (n0 c0 : Nat) (addr : Int) (cs : List S69) (fs : List S46) (pm : List (Int × Int)) (vc vf : Value) : Prop where
  blk : Cells w g m A0 n0 c0 addr vc vf
  hc : Kd.S k69 69 w w0.heap.size (fun _ => True) vc cs
  hf : Kd.S k46 46 w w0.heap.size (fun _ => True) vf fs
  hm : MapF Try.prog 3 3 w m pm.length (intF pm)
  lg : w0.heap.size ≤ g
  lm : w0.heap.size ≤ m
  ne : m ≠ g
  hb : Below w0.heap.size w0 w
def St (w0 w : World) (g m : Nat) (A0 : Option Addr) (n0 c0 : Nat) (addr : Int) (cs : List S69) (fs : List S46) (pm : List (Int × Int)) : Prop := ∃ vc vf, StV w0 w g m A0 n0 c0 addr cs fs pm vc vf
theorem S_overMap {P : Program} {k e : TypeId} {W w1 : World} {b n : Nat} {f : Lit → Option Int} {α : Type} {d : Kd α} {t base : Nat} {ok : Nat → Prop} {u : Value} {xs : List α} (hS : Kd.S d t W base ok u xs) (h : MapF P k e W b n f) (hg : W.grownBy w1 (some b)) : Kd.S d t w1 base ok u xs := by
  obtain ⟨F, hF⟩ := hS
  exact ⟨F, R_overMap hF h hg⟩
section
variable {w0 w w1 : World} {g m : Nat} {A0 : Option Addr} {n0 c0 : Nat} {addr : Int} {cs : List S69} {fs : List S46} {pm : List (Int × Int)} {vc vf : Value}
theorem StV.glt (h : StV w0 w g m A0 n0 c0 addr cs fs pm vc vf) : g < w.heap.size := blk_lt h.blk
theorem StV.base (h : StV w0 w g m A0 n0 c0 addr cs fs pm vc vf) : w0.heap.size ≤ w.heap.size := Nat.le_trans h.lg (Nat.le_of_lt h.glt)
theorem StV.below (h : StV w0 w g m A0 n0 c0 addr cs fs pm vc vf) (hb : Below w.heap.size w w1) : StV w0 w1 g m A0 n0 c0 addr cs fs pm vc vf where
  blk := blk_below h.blk hb
  hc := Kd.S_below h.hc hb
  hf := Kd.S_below h.hf hb
  hm := h.hm.kept (grown_of_below hb none) (Option.some_ne_none _)
  lg := h.lg
  lm := h.lm
  ne := h.ne
  hb := h.hb.trans (hb.mono h.base)
theorem StV.drew (h : StV w0 w g m A0 n0 c0 addr cs fs pm vc vf) : StV w0 w.drew g m A0 n0 c0 addr cs fs pm vc vf := h.below (below_drew (Below.refl _ _))
theorem StV.alloc (h : StV w0 w g m A0 n0 c0 addr cs fs pm vc vf) (o : Obj) : StV w0 (w.alloc o) g m A0 n0 c0 addr cs fs pm vc vf := h.below (below_alloc (Below.refl _ _) o)
theorem St.below (h : St w0 w g m A0 n0 c0 addr cs fs pm) (hb : Below w.heap.size w w1) : St w0 w1 g m A0 n0 c0 addr cs fs pm := by
  obtain ⟨vc, vf, h⟩ := h
  exact ⟨vc, vf, h.below hb⟩
theorem StV.put (h : StV w0 w g m A0 n0 c0 addr cs fs pm vc vf) {s c : Int} (hm : MapF Try.prog 3 3 w1 m (pm.length + 1) (putF (intF pm) (.int .i64 s) c)) (hg : w.grownBy w1 (some m)) : StV w0 w1 g m A0 n0 c0 addr cs fs ((s, c) :: pm) vc vf where
  blk := blk_grown h.blk hg (fun e => h.ne (Option.some.inj e).symm)
  hc := S_overMap h.hc h.hm hg
  hf := S_overMap h.hf h.hm hg
  hm := by rw [← putF_intF]; exact hm
  lg := h.lg
  lm := h.lm
  ne := h.ne
  hb := h.hb.grown hg h.base (fun k hk => by cases hk; exact h.lm)
end
section
variable {w0 w w1 : World} {g m : Nat} {A0 : Option Addr} {n0 c0 : Nat} {addr : Int} {cs : List S69} {fs : List S46} {pm : List (Int × Int)} {vc vf v1 : Value}
theorem StV.putC (h : StV w0 w g m A0 n0 c0 addr cs fs pm vc vf) {cs' : List S69} (hN : Kd.S k69 69 w1 w0.heap.size (fun _ => True) v1 cs') (hg : w.grownBy w1 vc.ownBlock) : StV w0 (w1.setCell ⟨g, 2, none⟩ v1) g m A0 n0 c0 addr cs' fs pm v1 vf := by
 have hty := Kd.S_typed h.hc
 have hblk : Cells w1 g m A0 n0 c0 addr vc vf := blk_grown h.blk hg (fun e => Kd.S_ne h.hc h.blk (by decide) e)
 have hm1 : MapF Try.prog 3 3 w1 m pm.length (intF pm) := h.hm.over hty hg
 have hsz : (w1.setCell ⟨g, 2, none⟩ v1).heap.size = w1.heap.size := by simp [World.setCell]
 have hgs : w1.grownBy (w1.setCell ⟨g, 2, none⟩ v1) (some g) := ⟨rfl, rfl, rfl, by rw [hsz]; exact Nat.le_refl _, fun k _ hk => Below.heap_setCell w1 _ _ k (fun e => hk (by rw [e]))⟩
 have hF1 := Kd.S_over' h.hf hty (by decide) hg
 exact {
   blk := blk_put hblk 2 v1 (by rfl)
   hc := Kd.S_set hN hblk (by decide) _ _
   hf := Kd.S_set hF1 hblk (by decide) _ _
   hm := hm1.kept hgs (fun e => h.ne (Option.some.inj e))
   lg := h.lg
   lm := h.lm
   ne := h.ne
   hb := (h.hb.grown hg h.base (Kd.S_base h.hc)).setCell h.lg _ }
end
theorem run_mapUpdate {P : Program} {a : Act} {w w1 : World} {oi : Oper} (t : TypeId) (m x v : Operand) {M X V : Value} (hop : oi.op = .mapUpdate t m x v) (hm : a.eval m = M) (hx : a.eval x = X) (hv : a.eval v = V) (hrun : (Instr.mapUpdate t M X V).run P w = .ok () w1) : (execOp a.eval oi).run P w = .ok .skip w1 := by
 unfold execOp
 simp [hop, hm, hx, hv, hrun, Result.andThen]
set_option maxHeartbeats 4000000 in
theorem cie_ok (w0 w : World) (g m : Nat) (A0 : Option Addr) (n0 c0 : Nat) (addr : Int) (cs : List S69) (fs : List S46) (pm : List (Int × Int)) (h : St w0 w g m A0 n0 c0 addr cs fs pm)
    (A : Option Addr) (c : Nat) (b : List Int) (hC : Kd.C (Kd.int .u8) w0 A b.length b) (hc : b.length ≤ c) (hm : b.length ≤ 2097152) (h8 : 8 ≤ b.length) (hz : (b.take 8).drop 4 = [1, 122, 82, 0]) (e1 e2 e3 e4 : Int)
    (u1 : leb_ReadUleb.f b 8 = some (1, e1, 0)) (u2 : leb_ReadSleb.f b e1 = some (-8, e2, 0)) (u3 : leb_ReadUleb.f b e2 = some (16, e3, 0)) (u4 : leb_ReadUleb.f b e3 = some (1, e4, 0)) (h4 : 0 ≤ e4) (h5 : e4 < b.length) (x : Int) (hx : rd b e4 = x) (hxr : 0 ≤ x ∧ x ≤ 255) (r1 : Int) (r2 : Bool) (r3 : Int) (ho : ehframe_of.f x = some (r1, r2, r3, true))
    (os : List S105) (hos : cfa_Read.f (b.drop (e4.toNat + 1)) = some (os, 0)) (hol : os.length ≤ 100000) (first : Int) (hf : 0 ≤ first ∧ first ≤ 2097152) (hcl : cs.length ≤ 2097152) (hpl : pm.length ≤ 2097152) :
    Calls Try.prog 56 #[.pointer (some ⟨g, 0, none⟩), .slice A b.length c, .int .i64 first] w fun e w' => e = .returned (.tuple #[]) ∧ St w0 w' g m A0 n0 c0 addr (cs ++ [⟨x, trim os⟩]) fs ((first, (cs.length : Int)) :: pm) := by
 obtain ⟨vc, vf, hst⟩ := h
 have HST := am hst
 have HC := am hC
 have HCC := am hc
 have U1 := am u1
 have U2 := am u2
 have U3 := am u3
 have U4 := am u4
 have HO := am ho
 have HOL := am hol
 have HCL := am hcl
 have HPL := am hpl
 have HF := am hf
 have HX := am hx
 have H4 := am h4
 have H5 := am h5
 have d0 : decide ((b.length : Int) < 8) = false := decide_eq_false (by omega)
 have d0b : decide (b.length < 8) = false := decide_eq_false (by omega)
 have d1 : decide ((b.length : Int) ≤ e4) = false := decide_eq_false (by omega)
 have d2 : decide (e4 ≥ (b.length : Int)) = false := d1
 have hw4 : wrap64 (e4 + 1) = e4 + 1 := by unfold wrap64; omega
 have hw4i : IntKind.i64.wrap (e4 + 1) = e4 + 1 := by rw [IntKind.wrap_i64]; omega
 have hwx : wrap64 x = x := by unfold wrap64; omega
 have hwxi : IntKind.i64.wrap x = x := by rw [IntKind.wrap_i64]; omega
 obtain ⟨ad, rfl, hq⟩ := Kd.at_int hC e4 h4 (by omega)
 rw [hx] at hq
 have HQ := am hq
 obtain ⟨A4, c4, hl4, hcut4, hC4⟩ := cut_mid1 (some ad) c b 4 8 4 8 rfl rfl (by omega) h8 hc
 obtain ⟨A5, c5, hl5, hcut5, hC5⟩ := cut_from1 (some ad) c b (e4 + 1) (e4.toNat + 1) (by omega) (by omega) hc
 rw [hz] at hl4 hcut4 hC4
 obtain ⟨b5, hb5⟩ : ∃ l, b.drop (e4.toNat + 1) = l := ⟨_, rfl⟩
 rw [hb5] at hl5 hcut5 hC5 hos
 have HOS := am hos
 clear hb5
 have HC4 := am (show ∀ W : World, Kd.C (Kd.int .u8) W (some ad) b.length b → Kd.C (Kd.int .u8) W A4 4 [1, 122, 82, 0] from hC4)
 replace hcut4 : ∀ W : World, (Instr.slice 28 (.slice (some ad) b.length c) (some (.int .i64 4)) (some (.int .i64 8)) none).run Try.prog W = .ok (.slice A4 4 c4) W := hcut4
 have HC5 := am hC5
 have HL5 := am hl5
 clear hst hC hc u1 u2 u3 u4 ho hos hol hcl hpl hf hx h4 h5 hC4 hl4 hC5 hl5 h8 hz hxr hq hm
 go_enter Try.func56, Try.ntmps56
 go_wp2_with fail
 refine (ehframe_head.calls 0 [0, 0, 0, 0, 1, 122, 82, 0, 1, 120, 16, 1, 0] _ rfl).mono ?_
 rintro e wa ⟨vh, rfl, hvh, hba⟩
 obtain ⟨gh, ch, rfl, -, -, -⟩ := Kd.R_form hvh (by decide)
 have hch := (Kd.R_reads' hvh).2.1
 simp only [List.length_cons, List.length_nil] at hch
 have hC6 : Kd.C (Kd.int .u8) wa (some ⟨gh, 4, none⟩) 4 [1, 122, 82, 0] := by
  have hq := Kd.C_mid (lo := 4) (hi := 8) (Kd.R_reads' hvh).2.2 (by omega) (by decide) (Kd.R_reads' hvh).2.1
  rw [if_neg (by omega)] at hq
  exact hq
 have hcv6 := fun (m_ : Nat) => Kd.C_string (P := Try.prog) (A := some ⟨gh, 4, none⟩) (c := ch - 4) Try.underlying28 Try.underlying5 Try.underlying9 (Kd.C_drewN hC6 m_)
 have hcv4 := fun (m_ : Nat) => Kd.C_string (P := Try.prog) (A := A4) (c := c4) Try.underlying28 Try.underlying5 Try.underlying9 (Kd.C_drewN (HC4.out wa (Kd.C_below HC.out (HST.out.hb.trans (hba.mono HST.out.base)))) m_)
 have HSA := am (HST.out.below hba)
 have hcutH : ∀ W : World, (Instr.slice 28 (.slice (some ⟨gh, 0, none⟩) 13 ch) (some (.int .i64 4)) (some (.int .i64 8)) none).run Try.prog W = .ok (.slice (some ⟨gh, 4, none⟩) 4 (ch - 4)) W := by
  obtain ⟨io, hio, hsz⟩ := info5
  have hq := cut_mid (P := Try.prog) 28 5 .i64 .i64 Try.underlying28 hio 1 hsz (some ⟨gh, 0, none⟩) 13 ch 4 8 (by decide) (by decide) (by decide) (by omega)
  intro W
  rw [hq W, if_neg (by show ¬ ch = 4; omega)]
  rfl
 have HCH := am hch
 clear hvh hba hC6 HC4 hch
 go_wp2
 go_quiet (first | (go_at_call 55; refine Calls.quiet_of_same (fail_no _ _)))
 go_wp2_with fail
 have HSB := am (HSA.out.below (pw_below_drewN (Below.refl _ _) nq))
 clear hcv6 hcv4 hcut4 hcutH HSA HCH
 refine (uleb_ok _ g (some ad) c b (Kd.C_below HC.out HSB.out.hb) HCC.out 8 1 e1 U1.out).mono ?_
 rintro e wb ⟨rfl, hb⟩
 have HSC := am (HSB.out.below hb)
 clear hb HSB
 go_wp2_with fail
 refine (sleb_ok _ g (some ad) c b (Kd.C_below HC.out HSC.out.hb) HCC.out e1 (-8) e2 U2.out).mono ?_
 rintro e wc ⟨rfl, hb⟩
 have HSB := am (HSC.out.below hb)
 clear hb HSC
 go_wp2_with fail
 refine (uleb_ok _ g (some ad) c b (Kd.C_below HC.out HSB.out.hb) HCC.out e2 16 e3 U3.out).mono ?_
 rintro e wd ⟨rfl, hb⟩
 have HSC := am (HSB.out.below hb)
 clear hb HSB
 go_wp2_with fail
 refine (uleb_ok _ g (some ad) c b (Kd.C_below HC.out HSC.out.hb) HCC.out e3 1 e4 U4.out).mono ?_
 rintro e we ⟨rfl, hb⟩
 have HSB := am (HSC.out.below hb)
 clear hb HSC
 go_wp2_with fail
 refine (fail_no g _).mono ?_
 rintro e wf ⟨rfl, hwf⟩
 subst hwf
 have q1 := (HSB.out.hb.cell (World.block_lt_of_cell? _ _ HQ.out)).trans HQ.out
 have p1 := eq_true H4.out
 have p2 := eq_true H5.out
 go_wp2_with fail
 refine (ehframe_of.calls x r1 r2 r3 true _ HO.out).mono ?_
 rintro e wg ⟨rfl, hb⟩
 have HSC := am (HSB.out.below hb)
 clear hb HSB q1
 go_wp2_with fail
 refine (fail_no g _).mono ?_
 rintro e wh ⟨rfl, hwh⟩
 have HSB := am (HSC.out.below (w1 := wh) (by rw [hwh]; exact below_alloc (Below.refl _ _) _))
 clear hwh HSC
 obtain ⟨Av, cv, rfl⟩ := Kd.S_slice HSB.out.hc
 have g4 : wh.cell? ⟨g, 4, none⟩ = some (.map (some m)) := (blk_cell HSB.out.blk 4).trans rfl
 have g2 : wh.cell? ⟨g, 2, none⟩ = some (.slice Av cs.length cv) := (blk_cell HSB.out.blk 2).trans rfl
 go_wp2
 refine start_ (n := 11) (S := fun u => u.cell? ⟨g, 4, none⟩ = some (.map (some m)) ∧ u.cell? ⟨g, 2, none⟩ = some (.slice Av cs.length cv)) (ds := [10]) (bm 11 0) (by kernel_rfl) rfl rfl ?_ (fun hHeld => ?_)
 case refine_1 => exact ⟨by go_simp, by go_simp⟩
 refine pure_ (i := 0) (N := some 93) (v := ?_) (a' := ?_) (bm 11 1) rfl rfl (by kernel_rfl) (fun _ _ _ h => h) (Or.inl ⟨by rfl, ?_⟩) ?_ ?_
 rotate_left
 ·
  intro u
  go_simp
  with_reducible rfl
 rotate_left
 ·
  simp only [pz]
  rfl
 refine pure_ (i := 1) (N := some 94) (v := ?_) (a' := ?_) (bm 11 3) rfl rfl (by kernel_rfl) (fun _ _ _ h => h) (Or.inl ⟨by rfl, ?_⟩) ?_ ?_
 rotate_left
 ·
  intro u
  go_simp
  with_reducible rfl
 rotate_left
 ·
  simp only [pz]
  rfl
 refine pure_ (i := 2) (N := some 95) (v := ?_) (a' := ?_) (bm 11 7) rfl rfl (by kernel_rfl) (fun _ _ _ h => h) (Or.inl ⟨by rfl, ?_⟩) ?_ ?_
 rotate_left
 ·
  intro u
  go_simp
  with_reducible rfl
 rotate_left
 ·
  simp only [pz]
  rfl
 refine take_ (i := 3) (N := some 96) (v := ?_) (a' := ?_) (bm 11 15) rfl rfl (by kernel_rfl) (fun _ _ _ h => h) (Or.inl ⟨by rfl, ?_⟩) hHeld ?_ ?_
 rotate_left
 ·
  rintro u ⟨s0, s1⟩
  go_simp
  with_reducible rfl
 rotate_left
 ·
  simp only [pz]
  rfl
 refine pure_ (i := 4) (N := some 97) (v := ?_) (a' := ?_) (bm 11 31) rfl rfl (by kernel_rfl) (fun _ _ _ h => h) (Or.inl ⟨by rfl, ?_⟩) ?_ ?_
 rotate_left
 ·
  intro u
  go_simp
  with_reducible rfl
 rotate_left
 ·
  simp only [pz]
  rfl
 refine pure_ (i := 5) (N := some 98) (v := ?_) (a' := ?_) (bm 11 63) rfl rfl (by kernel_rfl) (fun _ _ _ h => h) (Or.inl ⟨by rfl, ?_⟩) ?_ ?_
 rotate_left
 ·
  intro u
  go_simp
  with_reducible rfl
 rotate_left
 ·
  simp only [pz]
  rfl
 refine pure_ (i := 6) (N := some 99) (v := ?_) (a' := ?_) (bm 11 127) rfl rfl (by kernel_rfl) (fun _ _ _ h => h) (Or.inl ⟨by rfl, ?_⟩) ?_ ?_
 rotate_left
 ·
  intro u
  go_simp
  with_reducible rfl
 rotate_left
 ·
  simp only [pz]
  rfl
 refine pure_ (i := 7) (N := some 100) (v := ?_) (a' := ?_) (bm 11 255) rfl rfl (by kernel_rfl) (fun _ _ _ h => h) (Or.inl ⟨by rfl, ?_⟩) ?_ ?_
 rotate_left
 ·
  intro u
  go_simp
  with_reducible rfl
 rotate_left
 ·
  simp only [pz]
  rfl
 refine take_ (i := 8) (N := some 101) (v := ?_) (a' := ?_) (bm 11 511) rfl rfl (by kernel_rfl) (fun _ _ _ h => h) (Or.inl ⟨by rfl, ?_⟩) hHeld ?_ ?_
 rotate_left
 ·
  rintro u ⟨s0, s1⟩
  go_simp
  with_reducible rfl
 rotate_left
 ·
  simp only [pz]
  rfl
 refine pure_ (i := 9) (N := some 102) (v := ?_) (a' := ?_) (bm 11 1023) rfl rfl (by kernel_rfl) (fun _ _ _ h => h) (Or.inl ⟨by rfl, ?_⟩) ?_ ?_
 rotate_left
 ·
  intro u
  go_simp
  with_reducible rfl
 rotate_left
 ·
  simp only [pz]
  rfl
 refine last_ (i := 10) (N := none) (bm 11 2047) rfl rfl (by kernel_rfl) (by decide) (fun K hK => ?_)
 obtain ⟨wi, hrun, hmi, hgi⟩ := HSB.out.drew.hm.put (t := 99) law Try.underlying99 Try.underlying3 (by have := HPL.out; unfold maxLen; omega) (Go.Maps.keyOf_int_mk Try.underlying3 (wf64 HF.out.1 (by have := HF.out.2; omega))) (wf64 (Int.natCast_nonneg cs.length) (by have := HCL.out; omega))
 refine skip_ (w1 := wi) (by rfl) rfl (run_mapUpdate 99 (.tmp 96) (.tmp 97) (.tmp 102) rfl rfl rfl rfl hrun) ?_
 have HSC := am (HSB.out.drew.put hmi hgi)
 clear hrun hmi hgi hHeld g4 g2 HSB
 refine hK.out _ _ ?_
 clear hK K
 refine done_ (by kernel_rfl) ?_
 have g2 : wi.cell? ⟨g, 2, none⟩ = some (.slice Av cs.length cv) := (blk_cell HSC.out.blk 2).trans rfl
 have q1 := (HSC.out.hb.cell (World.block_lt_of_cell? _ _ HQ.out)).trans HQ.out
 go_wp2
 refine start_ (n := 22) (S := fun u => u.cell? ⟨g, 2, none⟩ = some (.slice Av cs.length cv) ∧ u.cell? (ad.add e4.toNat) = some (.int .u8 x)) (ds := [21]) (bm 22 0) (by kernel_rfl) rfl rfl ?_ (fun hHeld => ?_)
 case refine_1 => exact ⟨by go_simp, by go_simp⟩
 refine pure_ (i := 0) (N := some 103) (v := ?_) (a' := ?_) (bm 22 1) rfl rfl (by kernel_rfl) (fun _ _ _ h => h) (Or.inl ⟨by rfl, ?_⟩) ?_ ?_
 rotate_left
 ·
  intro u
  go_simp
  with_reducible rfl
 rotate_left
 ·
  simp only [pz]
  rfl
 refine pure_ (i := 1) (N := some 104) (v := ?_) (a' := ?_) (bm 22 3) rfl rfl (by kernel_rfl) (fun _ _ _ h => h) (Or.inl ⟨by rfl, ?_⟩) ?_ ?_
 rotate_left
 ·
  intro u
  go_simp
  with_reducible rfl
 rotate_left
 ·
  simp only [pz]
  rfl
 refine pure_ (i := 2) (N := some 105) (v := ?_) (a' := ?_) (bm 22 7) rfl rfl (by kernel_rfl) (fun _ _ _ h => h) (Or.inl ⟨by rfl, ?_⟩) ?_ ?_
 rotate_left
 ·
  intro u
  go_simp
  with_reducible rfl
 rotate_left
 ·
  simp only [pz]
  rfl
 refine pure_ (i := 3) (N := some 106) (v := ?_) (a' := ?_) (bm 22 15) rfl rfl (by kernel_rfl) (fun _ _ _ h => h) (Or.inl ⟨by rfl, ?_⟩) ?_ ?_
 rotate_left
 ·
  intro u
  go_simp
  with_reducible rfl
 rotate_left
 ·
  simp only [pz]
  rfl
 refine take_ (i := 4) (N := some 107) (v := ?_) (a' := ?_) (bm 22 31) rfl rfl (by kernel_rfl) (fun _ _ _ h => h) (Or.inl ⟨by rfl, ?_⟩) hHeld ?_ ?_
 rotate_left
 ·
  rintro u ⟨s0, s1⟩
  go_simp
  with_reducible rfl
 rotate_left
 ·
  simp only [pz]
  rfl
 refine pure_ (i := 5) (N := some 108) (v := ?_) (a' := ?_) (bm 22 63) rfl rfl (by kernel_rfl) (fun _ _ _ h => h) (Or.inl ⟨by rfl, ?_⟩) ?_ ?_
 rotate_left
 ·
  intro u
  go_simp
  with_reducible rfl
 rotate_left
 ·
  simp only [pz]
  rfl
 refine pure_ (i := 6) (N := some 109) (v := ?_) (a' := ?_) (bm 22 127) rfl rfl (by kernel_rfl) (fun _ _ _ h => h) (Or.inl ⟨by rfl, ?_⟩) ?_ ?_
 rotate_left
 ·
  intro u
  go_simp
  with_reducible rfl
 rotate_left
 ·
  simp only [pz]
  rfl
 refine pure_ (i := 7) (N := some 110) (v := ?_) (a' := ?_) (bm 22 255) rfl rfl (by kernel_rfl) (fun _ _ _ h => h) (Or.inl ⟨by rfl, ?_⟩) ?_ ?_
 rotate_left
 ·
  intro u
  go_simp
  with_reducible rfl
 rotate_left
 ·
  simp only [pz]
  rfl
 refine take_ (i := 8) (N := some 111) (v := ?_) (a' := ?_) (bm 22 511) rfl rfl (by kernel_rfl) (fun _ _ _ h => h) (Or.inl ⟨by rfl, ?_⟩) hHeld ?_ ?_
 rotate_left
 ·
  rintro u ⟨s0, s1⟩
  go_simp
  with_reducible rfl
 rotate_left
 ·
  simp only [pz]
  rfl
 refine pure_ (i := 9) (N := some 112) (v := ?_) (a' := ?_) (bm 22 1023) rfl rfl (by kernel_rfl) (fun _ _ _ h => h) (Or.inl ⟨by rfl, ?_⟩) ?_ ?_
 rotate_left
 ·
  intro u
  go_simp
  with_reducible rfl
 rotate_left
 ·
  simp only [pz]
  rfl
 refine pure_ (i := 10) (N := some 113) (v := ?_) (a' := ?_) (bm 22 2047) rfl rfl (by kernel_rfl) (fun _ _ _ h => h) (Or.inl ⟨by rfl, ?_⟩) ?_ ?_
 rotate_left
 ·
  intro u
  go_simp
  with_reducible rfl
 rotate_left
 ·
  simp only [pz]
  rfl
 refine pure_ (i := 11) (N := some 114) (v := ?_) (a' := ?_) (bm 22 4095) rfl rfl (by kernel_rfl) (fun _ _ _ h => h) (Or.inl ⟨by rfl, ?_⟩) ?_ ?_
 rotate_left
 ·
  intro u
  go_simp
  with_reducible rfl
 rotate_left
 ·
  simp only [pz]
  rfl
 refine pure_ (i := 12) (N := some 115) (v := ?_) (a' := ?_) (bm 22 8191) rfl rfl (by kernel_rfl) (fun _ _ _ h => h) (Or.inl ⟨by rfl, ?_⟩) ?_ ?_
 rotate_left
 ·
  intro u
  go_simp
  with_reducible rfl
 rotate_left
 ·
  simp only [pz]
  rfl
 refine pure_ (i := 13) (N := some 116) (v := ?_) (a' := ?_) (bm 22 16383) rfl rfl (by kernel_rfl) (fun _ _ _ h => h) (Or.inl ⟨by rfl, ?_⟩) ?_ ?_
 rotate_left
 ·
  intro u
  go_simp
  with_reducible rfl
 rotate_left
 ·
  simp only [pz]
  rfl
 refine pure_ (i := 14) (N := some 117) (v := ?_) (a' := ?_) (bm 22 32767) rfl rfl (by kernel_rfl) (fun _ _ _ h => h) (Or.inl ⟨by rfl, ?_⟩) ?_ ?_
 rotate_left
 ·
  intro u
  go_simp
  with_reducible rfl
 rotate_left
 ·
  simp only [pz]
  rfl
 refine one_ (i := 15) (N := some 118) (bm 22 65535) rfl rfl (by kernel_rfl) (by decide) (fun K hK => ?_)
 refine goes_ Try.func78 (by kernel_rfl) rfl #[.pointer (some ⟨g, 0, none⟩), .slice A5 b5.length c5] (by rfl) rfl rfl (by (try simp only [ml]); first | done | rfl) ?_
 refine (ops_ok _ g A5 c5 b5 (HC5.out _ (Kd.C_below HC.out HSC.out.drew.hb)) HL5.out os HOS.out HOL.out).mono ?_
 rintro e wj ⟨v, rfl, hv, hb⟩
 refine ⟨_, rfl, ?_⟩
 have HSD := am (HSC.out.drew.below hb)
 obtain ⟨Ao, co, rfl⟩ := Kd.R_slice hv
 have HV := am hv
 have HOB := am (show Kd.S k69 69 wj w0.heap.size (fun k => True ∧ ¬ (wi.heap.size ≤ k)) _ _ from Kd.S_mono (Kd.S_below (Kd.S_bound HSC.out.drew.hc) hb) (fun k hk => ⟨trivial, Nat.not_le.2 hk.2.2.1⟩))
 have HSZ := am (show wi.heap.size ≤ wj.heap.size from hb.size)
 have g3 : wj.cell? ⟨g, 2, none⟩ = some (.slice Av cs.length cv) := (blk_cell HSD.out.blk 2).trans rfl
 have q3 := (HSD.out.hb.cell (World.block_lt_of_cell? _ _ HQ.out)).trans HQ.out
 clear hv hb hHeld g2 q1
 refine hK.out _ _ ⟨g3, q3⟩ (fun hHeld => ?_)
 clear hK K
 refine norm_ (a' := ?_) ?_ ?_
 rotate_left
 ·
  show Act.put _ (some 118) _ = _
  simp only [pz]
  rfl
 refine pure_ (i := 16) (N := some 119) (v := ?_) (a' := ?_) (bm 22 131071) rfl rfl (by kernel_rfl) (fun _ _ _ h => h) (Or.inl ⟨by rfl, ?_⟩) ?_ ?_
 rotate_left
 ·
  intro u
  go_simp
  with_reducible rfl
 rotate_left
 ·
  simp only [pz]
  rfl
 refine one_ (i := 17) (N := some 120) (bm 22 262143) rfl rfl (by kernel_rfl) (by decide) (fun K hK => ?_)
 refine value_ (w1 := ?_) (v := ?_) (by rfl) rfl ?_ ?_
 rotate_left 2
 ·
  go_simp
  constructor
  ·
   rfl
  rfl
 refine hK.out _ _ ⟨(World.cell?_alloc_lt _ _ _ (World.block_lt_of_cell? _ _ g3)).trans g3, (World.cell?_alloc_lt _ _ _ (World.block_lt_of_cell? _ _ q3)).trans q3⟩ (fun hHeld => ?_)
 clear hK K
 refine norm_ (a' := ?_) ?_ ?_
 rotate_left
 ·
  show Act.put _ (some 120) _ = _
  simp only [pz]
  rfl
 refine one_ (i := 18) (N := some 121) (bm 22 524287) rfl rfl (by kernel_rfl) (by decide) (fun K hK => ?_)
 refine Kd.S_append_step k69 (w0 := w0) w0.heap.size (by rfl) (.tmp 107) (.tmp 120) 24 69 (.agg #[(.int .i64 0), (.slice none 0 0)]) 32 rfl Try.underlying24 info69 rfl (by decide) (by decide) (.slice Av cs.length cv) cs (⟨x, trim os⟩ : S69) [.int .i64 x, .slice Ao (trim os).length co] (fun _ => True) (fun k => wi.heap.size ≤ k) rfl rfl ?aP ?aK ?aF ?aO ?aB ?aS ?aL ?_
 case aP => exact k69_mkM _ _ _ _ (Kd.R_lower (Kd.R_mono (Kd.R_bound HV.out) (fun k hk => hk.2.1)) HSC.out.base)
 case aK => exact fun k hk => ⟨trivial, fun e => absurd (Kd.S_lt HSC.out.hc k e.symm) (Nat.not_lt.2 hk)⟩
 case aF => exact fun _ _ => trivial
 case aO => exact HOB.out
 case aB => exact HSD.out.hb
 case aS => exact HSD.out.base
 case aL => have := HCL.out; omega
 intro v1 wk hN hbk hg hat
 obtain ⟨A1, cp1, rfl⟩ := Kd.S_slice hN
 have hfin := HSD.out.putC hN hg
 have HFIN := am hfin
 have hbl : Cells wk g m A0 n0 c0 addr (.slice Av cs.length cv) vf := blk_grown HSD.out.blk hg (fun e => Kd.S_ne HSD.out.hc HSD.out.blk (by decide) e)
 have g5 : wk.cell? ⟨g, 2, none⟩ = some (.slice Av cs.length cv) := (blk_cell hbl 2).trans rfl
 have g6 := blk_frozen hbl 2
 have q5 := (hbk.cell (World.block_lt_of_cell? _ _ HQ.out)).trans HQ.out
 clear hN hbk hg hat hfin hbl g3 q3
 refine hK.out _ _ ⟨g5, q5⟩ (fun hHeld => ?_)
 clear hK K
 refine norm_ (a' := ?_) ?_ ?_
 rotate_left
 ·
  show Act.put _ (some 121) _ = _
  simp only [pz]
  rfl
 refine pure_ (i := 19) (N := some 122) (v := ?_) (a' := ?_) (bm 22 1048575) rfl rfl (by kernel_rfl) (fun _ _ _ h => h) (Or.inl ⟨by rfl, ?_⟩) ?_ ?_
 rotate_left
 ·
  intro u
  go_simp
  with_reducible rfl
 rotate_left
 ·
  simp only [pz]
  rfl
 refine pure_ (i := 20) (N := some 123) (v := ?_) (a' := ?_) (bm 22 2097151) rfl rfl (by kernel_rfl) (fun _ _ _ h => h) (Or.inl ⟨by rfl, ?_⟩) ?_ ?_
 rotate_left
 ·
  intro u
  go_simp
  with_reducible rfl
 rotate_left
 ·
  simp only [pz]
  rfl
 refine last_ (i := 21) (N := none) (bm 22 4194303) rfl rfl (by kernel_rfl) (by decide) (fun K hK => ?_)
 rw [if_pos (by rfl)]
 go_simp
 refine hK.out _ _ ?_
 clear hK K
 refine done_ (by kernel_rfl) ?_
 go_wp2
 go_end0
 have hq := HFIN.out
 rw [show (cs ++ [(⟨x, trim os⟩ : S69)]).length = cs.length + 1 by simp] at hq
 exact ⟨rfl, _, _, hq⟩
section
variable {w0 w w1 : World} {g m : Nat} {A0 : Option Addr} {n0 c0 : Nat} {addr : Int} {cs : List S69} {fs : List S46} {pm : List (Int × Int)} {vc vf v1 : Value}
theorem StV.putF (h : StV w0 w g m A0 n0 c0 addr cs fs pm vc vf) {fs' : List S46} (hN : Kd.S k46 46 w1 w0.heap.size (fun _ => True) v1 fs') (hg : w.grownBy w1 vf.ownBlock) : StV w0 (w1.setCell ⟨g, 3, none⟩ v1) g m A0 n0 c0 addr cs fs' pm vc v1 := by
 have hty := Kd.S_typed h.hf
 have hblk : Cells w1 g m A0 n0 c0 addr vc vf := blk_grown h.blk hg (fun e => Kd.S_ne h.hf h.blk (by decide) e)
 have hm1 : MapF Try.prog 3 3 w1 m pm.length (intF pm) := h.hm.over hty hg
 have hsz : (w1.setCell ⟨g, 3, none⟩ v1).heap.size = w1.heap.size := by simp [World.setCell]
 have hgs : w1.grownBy (w1.setCell ⟨g, 3, none⟩ v1) (some g) := ⟨rfl, rfl, rfl, by rw [hsz]; exact Nat.le_refl _, fun k _ hk => Below.heap_setCell w1 _ _ k (fun e => hk (by rw [e]))⟩
 have hF1 := Kd.S_over' h.hc hty (by decide) hg
 exact {
   blk := blk_put hblk 3 v1 (by rfl)
   hf := Kd.S_set hN hblk (by decide) _ _
   hc := Kd.S_set hF1 hblk (by decide) _ _
   hm := hm1.kept hgs (fun e => h.ne (Option.some.inj e))
   lg := h.lg
   lm := h.lm
   ne := h.ne
   hb := (h.hb.grown hg h.base (Kd.S_base h.hf)).setCell h.lg _ }
end
set_option maxHeartbeats 4000000 in
theorem fde_ok (w0 w : World) (g m : Nat) (A0 : Option Addr) (n0 c0 : Nat) (addr : Int) (cs : List S69) (fs : List S46) (pm : List (Int × Int)) (h : St w0 w g m A0 n0 c0 addr cs fs pm)
    (A : Option Addr) (c : Nat) (b : List Int) (hC : Kd.C (Kd.int .u8) w0 A b.length b) (hc : b.length ≤ c) (place id q kq : Int) (hq : wrap64 (place - id) = q) (hqr : -9223372036854775808 ≤ q ∧ q ≤ 9223372036854775807) (hl : lookI pm q = some kq) (hk0 : 0 ≤ kq) (hk1 : kq < cs.length) (enc e15 : Int) (he : (rd_T69 cs kq).f0 = enc) (he15 : Go.bits .and .i64 enc 15 = e15)
    (k : Nat) (begin_ size e1 e2 e3 ap : Int) (hap : wrap64 (addr + place) = ap) (u1 : ehframe_Get.f k b 4 enc ap 0 = some (begin_, e1, 0)) (u2 : ehframe_Get.f k b e1 e15 0 0 = some (size, e2, 0)) (u3 : leb_ReadUleb.f b e2 = some (0, e3, 0)) (h4 : 0 ≤ e3) (h5 : e3 ≤ b.length)
    (os : List S105) (hos : cfa_Read.f (b.drop e3.toNat) = some (os, 0)) (hol : os.length ≤ 100000) (hfl : fs.length ≤ 2097152) :
    Calls Try.prog 57 #[.pointer (some ⟨g, 0, none⟩), .slice A b.length c, .int .i64 place, .int .i64 id] w fun e w' => e = .returned (.tuple #[]) ∧ St w0 w' g m A0 n0 c0 addr cs (fs ++ [⟨kq, begin_, size, trim os⟩]) pm := by
 obtain ⟨vc, vf, hst⟩ := h
 have HST := am hst
 have HC := am hC
 have HCC := am hc
 have U1 := am u1
 have U2 := am u2
 have U3 := am u3
 have HOL := am hol
 have HFL := am hfl
 have hqi : IntKind.i64.wrap (place - id) = q := by rw [i64_w]; exact hq
 have hapi : IntKind.i64.wrap (addr + place) = ap := by rw [i64_w]; exact hap
 obtain ⟨A5, c5, hl5, hcut5, hC5⟩ := cut_from1 A c b e3 e3.toNat (by omega) (by omega) hc
 obtain ⟨b5, hb5⟩ : ∃ l, b.drop e3.toNat = l := ⟨_, rfl⟩
 rw [hb5] at hl5 hcut5 hC5 hos
 have HOS := am hos
 have HC5 := am hC5
 have HL5 := am hl5
 obtain ⟨Av, cv, rfl⟩ := Kd.S_slice hst.hc
 obtain ⟨Af, cf, rfl⟩ := Kd.S_slice hst.hf
 have g4 : w.cell? ⟨g, 4, none⟩ = some (.map (some m)) := (blk_cell hst.blk 4).trans rfl
 have hlook : (Instr.lookup 99 (.map (some m)) (.int .i64 q) true).run Try.prog w = .ok (.tuple #[.int .i64 kq, .bool true]) w := by
  have hz : (zeroValue 3).run Try.prog w = .ok (.int .i64 0) w := by kernel_rfl
  have h1 := hst.hm.look_ok (t := 99) law Try.underlying99 Try.underlying3 hz (Go.Maps.keyOf_int_mk Try.underlying3 (a := q) (by simp [Lit.wf, IntKind.min, IntKind.max, IntKind.signed, IntKind.bits]; omega))
  rw [h1]
  simp only [intF, hl, Option.getD_some, Option.isSome_some]
 have HK0 := am hk0
 have HK1 := am hk1
 have HE := am he
 clear hst hC hc u1 u2 u3 hos hol hfl hC5 hl5 hb5 hk0 hk1 he h4 h5 hqr hl
 go_enter Try.func57, Try.ntmps57
 go_wp2_with fail
 refine (fail_no g _).mono ?_
 rintro e wf ⟨rfl, hwf⟩
 subst hwf
 clear hlook g4
 have g2 : wf.cell? ⟨g, 2, none⟩ = some (.slice Av cs.length cv) := (blk_cell HST.out.blk 2).trans rfl
 have g1 : wf.cell? ⟨g, 1, none⟩ = some (.int .i64 addr) := (blk_cell HST.out.blk 1).trans rfl
 obtain ⟨ad, A9, c9, rfl, hx0, hx1, -, -⟩ := at_T69 (Kd.S_reads' HST.out.hc).2.2 kq HK0.out HK1.out
 rw [HE.out] at hx0
 clear hx1
 have p1 := eq_true HK0.out
 have p2 := eq_true HK1.out
 go_wp2_with fail
 refine (ehframe_Get.calls k A c b 4 enc ap 0 begin_ e1 0 _ (Kd.C_below HC.out HST.out.hb) HCC.out U1.out).mono ?_
 rintro e wa ⟨rfl, hb⟩
 have HSB := am (HST.out.below hb)
 clear hb hx0 g2 g1
 go_wp2_with fail
 refine (fail_no g _).mono ?_
 rintro e wf ⟨rfl, hwf⟩
 subst hwf
 go_wp2_with fail
 refine (ehframe_Get.calls k A c b e1 e15 0 0 size e2 0 _ (Kd.C_below HC.out HSB.out.hb) HCC.out U2.out).mono ?_
 rintro e wb ⟨rfl, hb⟩
 have HSC := am (HSB.out.below hb)
 clear hb HSB
 go_wp2_with fail
 refine (fail_no g _).mono ?_
 rintro e wf ⟨rfl, hwf⟩
 subst hwf
 go_wp2_with fail
 refine (uleb_ok _ g A c b (Kd.C_below HC.out HSC.out.hb) HCC.out e2 0 e3 U3.out).mono ?_
 rintro e wc ⟨rfl, hb⟩
 have HSB := am (HSC.out.below hb)
 clear hb HSC
 go_wp2_with fail
 refine (fail_no g _).mono ?_
 rintro e wi ⟨rfl, hwf⟩
 subst hwf
 have g2 : wi.cell? ⟨g, 3, none⟩ = some (.slice Af fs.length cf) := (blk_cell HSB.out.blk 3).trans rfl
 go_wp2
 refine start_ (n := 19) (S := fun u => u.cell? ⟨g, 3, none⟩ = some (.slice Af fs.length cf)) (ds := [18]) (bm 19 0) (by kernel_rfl) rfl rfl ?_ (fun hHeld => ?_)
 case refine_1 => exact (by go_simp)
 refine pure_ (i := 0) (N := some 80) (v := ?_) (a' := ?_) (bm 19 1) rfl rfl (by kernel_rfl) (fun _ _ _ h => h) (Or.inl ⟨by rfl, ?_⟩) ?_ ?_
 rotate_left
 ·
  intro u
  go_simp
  with_reducible rfl
 rotate_left
 ·
  simp only [pz]
  rfl
 refine pure_ (i := 1) (N := some 81) (v := ?_) (a' := ?_) (bm 19 3) rfl rfl (by kernel_rfl) (fun _ _ _ h => h) (Or.inl ⟨by rfl, ?_⟩) ?_ ?_
 rotate_left
 ·
  intro u
  go_simp
  with_reducible rfl
 rotate_left
 ·
  simp only [pz]
  rfl
 refine pure_ (i := 2) (N := some 82) (v := ?_) (a' := ?_) (bm 19 7) rfl rfl (by kernel_rfl) (fun _ _ _ h => h) (Or.inl ⟨by rfl, ?_⟩) ?_ ?_
 rotate_left
 ·
  intro u
  go_simp
  with_reducible rfl
 rotate_left
 ·
  simp only [pz]
  rfl
 refine pure_ (i := 3) (N := some 83) (v := ?_) (a' := ?_) (bm 19 15) rfl rfl (by kernel_rfl) (fun _ _ _ h => h) (Or.inl ⟨by rfl, ?_⟩) ?_ ?_
 rotate_left
 ·
  intro u
  go_simp
  with_reducible rfl
 rotate_left
 ·
  simp only [pz]
  rfl
 refine take_ (i := 4) (N := some 84) (v := ?_) (a' := ?_) (bm 19 31) rfl rfl (by kernel_rfl) (fun _ _ _ h => h) (Or.inl ⟨by rfl, ?_⟩) hHeld ?_ ?_
 rotate_left
 ·
  rintro u s0
  go_simp
  with_reducible rfl
 rotate_left
 ·
  simp only [pz]
  rfl
 refine pure_ (i := 5) (N := some 85) (v := ?_) (a' := ?_) (bm 19 63) rfl rfl (by kernel_rfl) (fun _ _ _ h => h) (Or.inl ⟨by rfl, ?_⟩) ?_ ?_
 rotate_left
 ·
  intro u
  go_simp
  with_reducible rfl
 rotate_left
 ·
  simp only [pz]
  rfl
 refine pure_ (i := 6) (N := some 86) (v := ?_) (a' := ?_) (bm 19 127) rfl rfl (by kernel_rfl) (fun _ _ _ h => h) (Or.inl ⟨by rfl, ?_⟩) ?_ ?_
 rotate_left
 ·
  intro u
  go_simp
  with_reducible rfl
 rotate_left
 ·
  simp only [pz]
  rfl
 refine pure_ (i := 7) (N := some 87) (v := ?_) (a' := ?_) (bm 19 255) rfl rfl (by kernel_rfl) (fun _ _ _ h => h) (Or.inl ⟨by rfl, ?_⟩) ?_ ?_
 rotate_left
 ·
  intro u
  go_simp
  with_reducible rfl
 rotate_left
 ·
  simp only [pz]
  rfl
 refine pure_ (i := 8) (N := some 88) (v := ?_) (a' := ?_) (bm 19 511) rfl rfl (by kernel_rfl) (fun _ _ _ h => h) (Or.inl ⟨by rfl, ?_⟩) ?_ ?_
 rotate_left
 ·
  intro u
  go_simp
  with_reducible rfl
 rotate_left
 ·
  simp only [pz]
  rfl
 refine pure_ (i := 9) (N := some 89) (v := ?_) (a' := ?_) (bm 19 1023) rfl rfl (by kernel_rfl) (fun _ _ _ h => h) (Or.inl ⟨by rfl, ?_⟩) ?_ ?_
 rotate_left
 ·
  intro u
  go_simp
  with_reducible rfl
 rotate_left
 ·
  simp only [pz]
  rfl
 refine pure_ (i := 10) (N := some 90) (v := ?_) (a' := ?_) (bm 19 2047) rfl rfl (by kernel_rfl) (fun _ _ _ h => h) (Or.inl ⟨by rfl, ?_⟩) ?_ ?_
 rotate_left
 ·
  intro u
  go_simp
  with_reducible rfl
 rotate_left
 ·
  simp only [pz]
  rfl
 refine pure_ (i := 11) (N := some 91) (v := ?_) (a' := ?_) (bm 19 4095) rfl rfl (by kernel_rfl) (fun _ _ _ h => h) (Or.inl ⟨by rfl, ?_⟩) ?_ ?_
 rotate_left
 ·
  intro u
  go_simp
  with_reducible rfl
 rotate_left
 ·
  simp only [pz]
  rfl
 refine one_ (i := 12) (N := some 92) (bm 19 8191) rfl rfl (by kernel_rfl) (by decide) (fun K hK => ?_)
 refine goes_ Try.func78 (by kernel_rfl) rfl #[.pointer (some ⟨g, 0, none⟩), .slice A5 b5.length c5] (by rfl) rfl rfl (by (try simp only [ml]); first | done | rfl) ?_
 refine (ops_ok _ g A5 c5 b5 (HC5.out _ (Kd.C_below HC.out HSB.out.drew.hb)) HL5.out os HOS.out HOL.out).mono ?_
 rintro e wj ⟨v, rfl, hv, hb⟩
 refine ⟨_, rfl, ?_⟩
 have HSD := am (HSB.out.drew.below hb)
 obtain ⟨Ao, co, rfl⟩ := Kd.R_slice hv
 have HV := am hv
 have HOB := am (show Kd.S k46 46 wj w0.heap.size (fun k => True ∧ ¬ (wi.heap.size ≤ k)) _ _ from Kd.S_mono (Kd.S_below (Kd.S_bound HSB.out.drew.hf) hb) (fun k hk => ⟨trivial, Nat.not_le.2 hk.2.2.1⟩))
 have HSZ := am (show wi.heap.size ≤ wj.heap.size from hb.size)
 have g3 : wj.cell? ⟨g, 3, none⟩ = some (.slice Af fs.length cf) := (blk_cell HSD.out.blk 3).trans rfl
 clear hv hb hHeld g2
 refine hK.out _ _ g3 (fun hHeld => ?_)
 clear hK K
 refine norm_ (a' := ?_) ?_ ?_
 rotate_left
 ·
  show Act.put _ (some 92) _ = _
  simp only [pz]
  rfl
 refine pure_ (i := 13) (N := some 93) (v := ?_) (a' := ?_) (bm 19 16383) rfl rfl (by kernel_rfl) (fun _ _ _ h => h) (Or.inl ⟨by rfl, ?_⟩) ?_ ?_
 rotate_left
 ·
  intro u
  go_simp
  with_reducible rfl
 rotate_left
 ·
  simp only [pz]
  rfl
 refine one_ (i := 14) (N := some 94) (bm 19 32767) rfl rfl (by kernel_rfl) (by decide) (fun K hK => ?_)
 refine value_ (w1 := ?_) (v := ?_) (by rfl) rfl ?_ ?_
 rotate_left 2
 ·
  go_simp
  constructor
  ·
   rfl
  rfl
 refine hK.out _ _ ((World.cell?_alloc_lt _ _ _ (World.block_lt_of_cell? _ _ g3)).trans g3) (fun hHeld => ?_)
 clear hK K
 refine norm_ (a' := ?_) ?_ ?_
 rotate_left
 ·
  show Act.put _ (some 94) _ = _
  simp only [pz]
  rfl
 refine one_ (i := 15) (N := some 95) (bm 19 65535) rfl rfl (by kernel_rfl) (by decide) (fun K hK => ?_)
 refine Kd.S_append_step k46 (w0 := w0) w0.heap.size (by rfl) (.tmp 84) (.tmp 94) 25 46 (.agg #[(.int .i64 0), (.int .i64 0), (.int .i64 0), (.slice none 0 0)]) 48 rfl Try.underlying25 info46 rfl (by decide) (by decide) (.slice Af fs.length cf) fs (⟨kq, begin_, size, trim os⟩ : S46) [.int .i64 kq, .int .i64 begin_, .int .i64 size, .slice Ao (trim os).length co] (fun _ => True) (fun k => wi.heap.size ≤ k) rfl rfl ?aP ?aK ?aF ?aO ?aB ?aS ?aL ?_
 case aP => exact k46_mkM _ _ _ _ (Kd.R_lower (Kd.R_mono (Kd.R_bound HV.out) (fun k hk => hk.2.1)) HSB.out.base)
 case aK => exact fun k hk => ⟨trivial, fun e => absurd (Kd.S_lt HSB.out.hf k e.symm) (Nat.not_lt.2 hk)⟩
 case aF => exact fun _ _ => trivial
 case aO => exact HOB.out
 case aB => exact HSD.out.hb
 case aS => exact HSD.out.base
 case aL => have := HFL.out; omega
 intro v1 wk hN hbk hg hat
 obtain ⟨A1, cp1, rfl⟩ := Kd.S_slice hN
 have hfin := HSD.out.putF hN hg
 have HFIN := am hfin
 have hbl : Cells wk g m A0 n0 c0 addr (.slice (some ad) cs.length cv) (.slice Af fs.length cf) := blk_grown HSD.out.blk hg (fun e => Kd.S_ne HSD.out.hf HSD.out.blk (by decide) e)
 have g5 : wk.cell? ⟨g, 3, none⟩ = some (.slice Af fs.length cf) := (blk_cell hbl 3).trans rfl
 have g6 := blk_frozen hbl 3
 clear hN hbk hg hat hfin hbl g3
 refine hK.out _ _ g5 (fun hHeld => ?_)
 clear hK K
 refine norm_ (a' := ?_) ?_ ?_
 rotate_left
 ·
  show Act.put _ (some 95) _ = _
  simp only [pz]
  rfl
 refine pure_ (i := 16) (N := some 96) (v := ?_) (a' := ?_) (bm 19 131071) rfl rfl (by kernel_rfl) (fun _ _ _ h => h) (Or.inl ⟨by rfl, ?_⟩) ?_ ?_
 rotate_left
 ·
  intro u
  go_simp
  with_reducible rfl
 rotate_left
 ·
  simp only [pz]
  rfl
 refine pure_ (i := 17) (N := some 97) (v := ?_) (a' := ?_) (bm 19 262143) rfl rfl (by kernel_rfl) (fun _ _ _ h => h) (Or.inl ⟨by rfl, ?_⟩) ?_ ?_
 rotate_left
 ·
  intro u
  go_simp
  with_reducible rfl
 rotate_left
 ·
  simp only [pz]
  rfl
 refine last_ (i := 18) (N := none) (bm 19 524287) rfl rfl (by kernel_rfl) (by decide) (fun K hK => ?_)
 rw [if_pos (by rfl)]
 go_simp
 refine hK.out _ _ ?_
 clear hK K
 refine done_ (by kernel_rfl) ?_
 go_wp2
 go_end0
 have hq := HFIN.out
 rw [show (fs ++ [(⟨kq, begin_, size, trim os⟩ : S46)]).length = fs.length + 1 by simp] at hq
 exact ⟨rfl, _, _, hq⟩
end Go.Proofs.Ytfgfnflhdabmcaa.EhRd
end
section
namespace Go.Proofs.Ytfgfnflhdabmcaa.EhRd
open Go.RowKit Go.Proofs.Ytfgfnflhdabmcaa.G Go.Proofs.YtfgfnflhdabmcaaW.PrintWords Go.Proofs.YtfgfnflhdabmcaaW.PrintLast Go.Proofs.YtfgfnflhdabmcaaW.PrintMore
theorem read_idle (p q r : Addr) (w : World) :
    CallsD Try.prog 54 #[.pointer (some p), .pointer (some q), .pointer (some r)] .returning w fun e u' w' => e = .returned (.tuple #[]) ∧ u' = .returning ∧ w' = w := by
 refine callsD_of_wpS Try.func54 rfl fun c₀ cs hu => ?_
 apply wpS_seq
 apply wpS_region
 simp [wpOpsS, go_sem, recoverD, hu, Try.ntmps54, Exit.thenS]
 apply wpS_seq
 apply wpS_region
 simp [wpOpsS, go_sem, recoverD, hu, Try.ntmps54, Exit.thenS]
 refine wpS_cond (t := false) (by simp [Act.eval, Array.replicate]) ?_
 simp only [Bool.false_eq_true, if_false]
 refine wpS_of_wp (wp_skip ?_)
 cases c₀
 simp_all [bodyPostS, results, Try.results54]
theorem results3c {fn : Func} {p q r : Tmp} {ty ty1 ty2 e e1 : TypeId} (h : fn.results = #[.cell p ty, .cell q ty1, .cell r ty2]) (tmps : Array Value) (P : Program) (w : World) (a b d : Addr) (x y z : Value) (hp : tmps.getD p undef = .pointer (some a)) (hq : tmps.getD q undef = .pointer (some b)) (hr : tmps.getD r undef = .pointer (some d)) (hu : P.underlying ty = some (.slice e)) (hu1 : P.underlying ty1 = some (.slice e1)) (hu2 : P.underlying ty2 = some (.int .i64)) (hc : w.cell? a = some x) (hc1 : w.cell? b = some y) (hc2 : w.cell? d = some z) :
    (results fn tmps).run P w = .ok (.tuple #[x, y, z]) w := by
 have hag : (isAgg ty).run P w = .ok false w := by simp [isAgg, underlying, hu]
 have hag1 : (isAgg ty1).run P w = .ok false w := by simp [isAgg, underlying, hu1]
 have hag2 : (isAgg ty2).run P w = .ok false w := by simp [isAgg, underlying, hu2]
 simp [results, h, loadVar]
 simp at hp hq hr
 rw [hp, hq, hr]
 simp [asAddr, hag, hag1, hag2, hc, hc1, hc2]
theorem leaves_tmps {P : Program} {fn : Func} {t1 t2 : Array Value} {R : Ending → World → Prop} (ht : ∀ w, (results fn t1).run P w = (results fn t2).run P w) : ∀ (ds : List Deferred) (u : FrameMode) (w : World), Leaves P fn t1 R ds u w → Leaves P fn t2 R ds u w
  | [], .returning, w, h => by
    obtain ⟨v, h1, h2⟩ := h
    exact ⟨v, by rw [← ht]; exact h1, h2⟩
  | [], .panicking ch, w, h => h
  | [], .run, _, h => h
  | d :: ds, u, w, h => by
    obtain ⟨h1, fv, cap, f, args, h2, h3, h4⟩ := h
    refine ⟨h1, fv, cap, f, args, h2, h3, h4.mono fun e u' w' hh => ?_⟩
    cases e with
    | returned v => exact leaves_tmps ht ds _ w' hh
    | panicked ch => exact leaves_tmps ht ds _ w' hh
    | outgrown => exact hh
theorem res_put (a : Act) (n : Nat) (v : Value) (h4 : n ≠ 4) (h5 : n ≠ 5) (h6 : n ≠ 6) : results Try.f21 (a.put (some n) v).tmps = results Try.f21 a.tmps := by
 have e4 : (a.put (some n) v).tmps.getD 4 undef = a.tmps.getD 4 undef := by
  simp only [Act.put, Array.getD_eq_getD_getElem?, Array.getElem?_setIfInBounds]
  rw [if_neg h4]
 have e5 : (a.put (some n) v).tmps.getD 5 undef = a.tmps.getD 5 undef := by
  simp only [Act.put, Array.getD_eq_getD_getElem?, Array.getElem?_setIfInBounds]
  rw [if_neg h5]
 have e6 : (a.put (some n) v).tmps.getD 6 undef = a.tmps.getD 6 undef := by
  simp only [Act.put, Array.getD_eq_getD_getElem?, Array.getElem?_setIfInBounds]
  rw [if_neg h6]
 have hr : Try.f21.results = #[.cell 4 24, .cell 5 25, .cell 6 30] := Try.results21
 unfold results
 rw [hr]
 simp only [List.mapM_toArray, List.mapM_cons, List.mapM_nil, e4, e5, e6]
theorem panic_put {P : Program} {R : Ending → World → Prop} {a : Act} {w : World} {ch : List PanicEntry} {n : Nat} {v : Value} (h4 : n ≠ 4) (h5 : n ≠ 5) (h6 : n ≠ 6) (h : bodyPostD P Try.f21 R (.panic ch) (a.put (some n) v) w) : bodyPostD P Try.f21 R (.panic ch) a w := by
 have h1 : Leaves P Try.f21 (a.put (some n) v).tmps R (a.put (some n) v).defers (.panicking ch) w := h
 have h2 : Leaves P Try.f21 a.tmps R (a.put (some n) v).defers (.panicking ch) w := leaves_tmps (fun w => by rw [res_put a n v h4 h5 h6]) _ _ _ h1
 exact h2
theorem read_catch (p : Nat) (v x y : Value) (w : World) (hp : w.heap[p]? = some (.cells #[v] 24 (0, 0))) (hq : w.heap[p + 1]? = some (.cells #[x] 25 (0, 0))) (hr : w.heap[p + 2]? = some (.cells #[y] 30 (0, 0))) :
    CallsD Try.prog 54 #[.pointer (some ⟨p, 0, none⟩), .pointer (some ⟨p + 1, 0, none⟩), .pointer (some ⟨p + 2, 0, none⟩)] (.panicking gaveUp) w fun e u' w' => e = .returned (.tuple #[]) ∧ u' = .panicking [{ v := .iface 30 (.int .i64 140), recovered := true }] ∧ Below p w w' ∧ w'.heap[p]? = some (.cells #[.slice none 0 0] 24 (0, 0)) ∧ w'.heap[p + 1]? = some (.cells #[.slice none 0 0] 25 (0, 0)) ∧ w'.heap[p + 2]? = some (.cells #[.int .i64 140] 30 (0, 0)) := by
 refine callsD_of_wpS Try.func54 rfl fun c₀ cs hu => ?_
 apply wpS_seq
 apply wpS_region
 simp [wpOpsS, go_sem, recoverD, hu, gaveUp, Try.ntmps54, Exit.thenS]
 apply wpS_seq
 apply wpS_region
 simp [wpOpsS, go_sem, recoverD, hu, Try.ntmps54, Exit.thenS]
 refine wpS_cond (t := true) (by simp [Act.eval, Array.replicate]) ?_
 simp only [if_true]
 refine wpS_of_wp ?_
 have g1 : w.cell? ⟨p, 0, none⟩ = some v := (blk_cell hp 0).trans rfl
 have g3 := blk_frozen hp 0
 have hta : ∀ u : World, Sem.run Try.prog (Instr.typeAssert (.iface 30 (.int .i64 140)) 20 30 false) u = .ok (.int .i64 140) u := fun u => by kernel_rfl
 have htm : (#[Value.pointer (some ⟨p, 0, none⟩), .pointer (some ⟨p + 1, 0, none⟩), .pointer (some ⟨p + 2, 0, none⟩)] ++ ((((Array.replicate 6 undef).setIfInBounds 1 (.iface 30 (.int .i64 140))).setIfInBounds 0 (.iface 30 (.int .i64 140))).setIfInBounds 2 (.iface 30 (.int .i64 140))).setIfInBounds 3 (.bool true)) = #[.pointer (some ⟨p, 0, none⟩), .pointer (some ⟨p + 1, 0, none⟩), .pointer (some ⟨p + 2, 0, none⟩), .iface 30 (.int .i64 140), .iface 30 (.int .i64 140), .iface 30 (.int .i64 140), .bool true, undef, undef] := by rfl
 rw [htm]
 go_wp2
 have k1 : (w.setCell ⟨p, 0, none⟩ (.slice none 0 0)).heap[p]? = some (.cells #[.slice none 0 0] 24 (0, 0)) := blk_put hp 0 _ rfl
 have k2 : (w.setCell ⟨p, 0, none⟩ (.slice none 0 0)).heap[p + 1]? = some (.cells #[x] 25 (0, 0)) := blk_far hq (by show p + 1 ≠ p; omega) _
 have k2r : (w.setCell ⟨p, 0, none⟩ (.slice none 0 0)).heap[p + 2]? = some (.cells #[y] 30 (0, 0)) := blk_far hr (by show p + 2 ≠ p; omega) _
 have k3 : (w.setCell ⟨p, 0, none⟩ (.slice none 0 0)).drew.cell? ⟨p + 1, 0, none⟩ = some x := (blk_cell (blk_drew k2) 0).trans rfl
 have k4 : (w.setCell ⟨p, 0, none⟩ (.slice none 0 0)).drew.frozen? ⟨p + 1, 0, none⟩ = false := blk_frozen (blk_drew k2) 0
 have k3r : (w.setCell ⟨p, 0, none⟩ (.slice none 0 0)).drew.cell? ⟨p + 2, 0, none⟩ = some y := (blk_cell (blk_drew k2r) 0).trans rfl
 have m1 := blk_far k1 (show p ≠ (⟨p + 1, 0, none⟩ : Addr).block by show p ≠ p + 1; omega) (.slice none 0 0)
 have m2 := blk_put k2 0 (.slice none 0 0) rfl
 have m3 := blk_far k2r (show p + 2 ≠ (⟨p + 1, 0, none⟩ : Addr).block by show p + 2 ≠ p + 1; omega) (.slice none 0 0)
 have m3c : ((w.setCell ⟨p, 0, none⟩ (.slice none 0 0)).setCell ⟨p + 1, 0, none⟩ (.slice none 0 0)).drew.cell? ⟨p + 2, 0, none⟩ = some y := (blk_cell (blk_drew m3) 0).trans rfl
 have m3f := blk_frozen (blk_drew m3) 0
 have n1 := blk_far m1 (show p ≠ (⟨p + 2, 0, none⟩ : Addr).block by show p ≠ p + 2; omega) (.int .i64 140)
 have n2 := blk_far m2 (show p + 1 ≠ (⟨p + 2, 0, none⟩ : Addr).block by show p + 1 ≠ p + 2; omega) (.int .i64 140)
 have n3 := blk_put m3 0 (.int .i64 140) rfl
 have k7 : Below p w (((w.setCell ⟨p, 0, none⟩ (.slice none 0 0)).setCell ⟨p + 1, 0, none⟩ (.slice none 0 0)).setCell ⟨p + 2, 0, none⟩ (.int .i64 140)) := (((Below.refl _ w).setCell (Nat.le_refl p) _).setCell (Nat.le_succ p) _).setCell (by show p ≤ p + 2; omega) _
 refine start_ (n := 5) (S := fun u => u.cell? ⟨p + 2, 0, none⟩ = some y) (ds := [4]) (bm 5 0) (by kernel_rfl) rfl rfl ?_ (fun hHeld => ?_)
 case refine_1 => exact ((blk_cell (blk_drew hr) 0).trans rfl)
 refine pure_ (i := 0) (N := some 7) (v := ?_) (a' := ?_) (bm 5 1) rfl rfl (by kernel_rfl) (fun _ _ _ h => h) (Or.inl ⟨by rfl, ?_⟩) ?_ ?_
 rotate_left
 ·
  intro u
  go_simp
  with_reducible rfl
 rotate_left
 ·
  simp only [pz]
  rfl
 refine pure_ (i := 1) (N := some 8) (v := ?_) (a' := ?_) (bm 5 3) rfl rfl (by kernel_rfl) (fun _ _ _ h => h) (Or.inl ⟨by rfl, ?_⟩) ?_ ?_
 rotate_left
 ·
  intro u
  go_simp
  with_reducible rfl
 rotate_left
 ·
  simp only [pz]
  rfl
 refine one_ (i := 2) (N := none) (bm 5 7) rfl rfl (by kernel_rfl) (by decide) (fun K hK => ?_)
 rw [if_pos (by rfl)]
 go_simp
 refine hK.out _ _ k3r (fun hHeld => ?_)
 clear hK K
 refine one_ (i := 3) (N := none) (bm 5 15) rfl rfl (by kernel_rfl) (by decide) (fun K hK => ?_)
 rw [if_pos (by rfl)]
 go_simp
 refine hK.out _ _ m3c (fun hHeld => ?_)
 clear hK K
 refine last_ (i := 4) (N := none) (bm 5 31) rfl rfl (by kernel_rfl) (by decide) (fun K hK => ?_)
 rw [if_pos (by rfl)]
 go_simp
 refine hK.out _ _ ?_
 clear hK K
 refine done_ (by kernel_rfl) ?_
 have hres : ∀ W : World, (results Try.f54 #[.pointer (some ⟨p, 0, none⟩), .pointer (some ⟨p + 1, 0, none⟩), .pointer (some ⟨p + 2, 0, none⟩), .iface 30 (.int .i64 140), .iface 30 (.int .i64 140), .iface 30 (.int .i64 140), .bool true, .iface 30 (.int .i64 140), .int .i64 140]).run Try.prog W = .ok (.tuple #[]) W := fun W => by simp [results, Try.results54]
 exact ⟨rfl, .panicking [{ v := .iface 30 (.int .i64 140), recovered := true }], rfl, .tuple #[], hres _, rfl, rfl, below_drew k7, blk_drew n1, blk_drew n2, blk_drew n3⟩
theorem read_gives_up (w W : World) (T : Array Value) (pl : Nat) (v x y : Value) (hpl : pl = w.heap.size) (h4 : T.getD 4 undef = .pointer (some ⟨pl, 0, none⟩)) (h5 : T.getD 5 undef = .pointer (some ⟨pl + 1, 0, none⟩)) (h6 : T.getD 6 undef = .pointer (some ⟨pl + 2, 0, none⟩)) (hp : W.heap[pl]? = some (.cells #[v] 24 (0, 0))) (hq : W.heap[pl + 1]? = some (.cells #[x] 25 (0, 0))) (hr : W.heap[pl + 2]? = some (.cells #[y] 30 (0, 0))) (hB : Below pl w W) :
    bodyPostD Try.prog Try.f21 (fun e w' => ∃ v0_ v1_ : Value, e = .returned (.tuple #[v0_, v1_, .int .i64 140]) ∧ Kd.S k69 69 w' w.heap.size (fun _ => True) v0_ [] ∧ Kd.S k46 46 w' w.heap.size (fun _ => True) v1_ [] ∧ Below w.heap.size w w') (.panic gaveUp) { tmps := T, defers := [{ target := .fn (.func 54) #[.pointer (some ⟨pl, 0, none⟩), .pointer (some ⟨pl + 1, 0, none⟩), .pointer (some ⟨pl + 2, 0, none⟩)], args := #[] }] } W := by
 show Leaves _ _ _ _ _ _ _
 refine leaves_cons (f := 54) (args := #[.pointer (some ⟨pl, 0, none⟩), .pointer (some ⟨pl + 1, 0, none⟩), .pointer (some ⟨pl + 2, 0, none⟩)]) (by simp) (by simp [go_sem]) ?_
 refine (read_catch pl v x y W hp hq hr).mono ?_
 rintro e u' w6 ⟨rfl, rfl, hb, e1, e2, e3⟩
 have hb5 := hB.trans hb
 rw [← hpl]
 exact ⟨.tuple #[.slice none 0 0, .slice none 0 0, .int .i64 140], results3c (p := 4) (q := 5) (r := 6) rfl _ _ _ ⟨pl, 0, none⟩ ⟨pl + 1, 0, none⟩ ⟨pl + 2, 0, none⟩ (.slice none 0 0) (.slice none 0 0) (.int .i64 140) h4 h5 h6 Try.underlying24 Try.underlying25 Try.underlying30 ((blk_cell e1 0).trans rfl) ((blk_cell e2 0).trans rfl) ((blk_cell e3 0).trans rfl), .slice none 0 0, .slice none 0 0, rfl, Kd.S_nil _ _ _ _ _, Kd.S_nil _ _ _ _ _, hb5⟩
end Go.Proofs.Ytfgfnflhdabmcaa.EhRd
end
section
namespace Go.Proofs.Ytfgfnflhdabmcaa.EhRd
open Go.RowKit Go.Proofs.Ytfgfnflhdabmcaa.G Go.Proofs.YtfgfnflhdabmcaaW.PrintWords Go.Proofs.YtfgfnflhdabmcaaW.PrintLast Go.Proofs.YtfgfnflhdabmcaaW.PrintMore
open Go.Proofs.Ytfgfnflhdabmcaa.Own Go.ChangeMaps
open Go.Proofs.Ytfgfnflhdabmcaa.CfaRd (uR sR uR_eq sR_eq)
open Go.Proofs.Ytfgfnflhdabmcaa.EhOf (ofF)
def gR (l : List Int) (at_ : Int) : Option Int := match leb_Get.f 12 l at_ 4 false with
  | some (n, er) => if er = 0 then some n else none
  | none => none
theorem gR_eq {l : List Int} {at_ n : Int} (h : gR l at_ = some n) : leb_Get.f 12 l at_ 4 false = some (n, 0) := by
 unfold gR at h
 split at h
 ·
  split at h
  ·
   rename_i n' er he e0
   obtain rfl := Option.some.inj h
   rw [he, e0]
  cases h
 cases h
def opsV (b : List Int) : Option (List S105) := match cfa_Read.f b with
  | some (os, er) => if er = 0 ∧ os.length ≤ 100000 then some os else none
  | none => none
theorem opsV_eq {b : List Int} {os : List S105} (h : opsV b = some os) : cfa_Read.f b = some (os, 0) ∧ os.length ≤ 100000 := by
 unfold opsV at h
 split at h
 rotate_left
 ·
  cases h
 split at h
 ·
  rename_i n' er he e0
  obtain rfl := Option.some.inj h
  rw [he, e0.1]
  exact ⟨rfl, e0.2⟩
 cases h
def getV (b : List Int) (at_ enc addr : Int) : Option (Int × Int) := match ehframe_Get.f 60 b at_ enc addr 0 with
  | some (v, en, er) => if er = 0 then some (v, en) else none
  | none => none
theorem getV_eq {b : List Int} {at_ enc addr v en : Int} (h : getV b at_ enc addr = some (v, en)) : ehframe_Get.f 60 b at_ enc addr 0 = some (v, en, 0) := by
 unfold getV at h
 split at h
 rotate_left
 ·
  cases h
 split at h
 ·
  rename_i v' en' er he e0
  simp only [Option.some.injEq, Prod.mk.injEq] at h
  obtain ⟨rfl, rfl⟩ := h
  rw [he, e0]
 cases h
def cieV (b : List Int) : Option S69 :=
  if b.length ≤ 2097152 ∧ 8 ≤ b.length ∧ (b.take 8).drop 4 = [1, 122, 82, 0] then
    (uR b 8).bind fun p1 => (sR b p1.2).bind fun p2 => (uR b p2.2).bind fun p3 => (uR b p3.2).bind fun p4 =>
      if p1.1 = 1 ∧ p2.1 = -8 ∧ p3.1 = 16 ∧ p4.1 = 1 ∧ 0 ≤ p4.2 ∧ p4.2 < b.length ∧ 0 ≤ rd b p4.2 ∧ rd b p4.2 ≤ 255 ∧ (ofF (rd b p4.2)).2.2.2 = true then
        (opsV (b.drop (p4.2.toNat + 1))).bind fun os => some ⟨rd b p4.2, trim os⟩
      else none
  else none
theorem cie_calls (w0 w : World) (g m : Nat) (A0 : Option Addr) (n0 c0 : Nat) (addr : Int) (cs : List S69) (fs : List S46) (pm : List (Int × Int)) (h : St w0 w g m A0 n0 c0 addr cs fs pm) (A : Option Addr) (c : Nat) (b : List Int) (hC : Kd.C (Kd.int .u8) w0 A b.length b) (hc : b.length ≤ c) (x : S69) (hx : cieV b = some x) (first : Int) (hf : 0 ≤ first ∧ first ≤ 2097152) (hcl : cs.length ≤ 2097152) (hpl : pm.length ≤ 2097152) :
    Calls Try.prog 56 #[.pointer (some ⟨g, 0, none⟩), .slice A b.length c, .int .i64 first] w fun e w' => e = .returned (.tuple #[]) ∧ St w0 w' g m A0 n0 c0 addr (cs ++ [x]) fs ((first, (cs.length : Int)) :: pm) := by
 unfold cieV at hx
 split at hx
 rotate_left
 ·
  cases hx
 rename_i h0
 obtain ⟨⟨n1, e1⟩, u1, hx⟩ := Option.bind_eq_some_iff.1 hx
 obtain ⟨⟨n2, e2⟩, u2, hx⟩ := Option.bind_eq_some_iff.1 hx
 obtain ⟨⟨n3, e3⟩, u3, hx⟩ := Option.bind_eq_some_iff.1 hx
 obtain ⟨⟨n4, e4⟩, u4, hx⟩ := Option.bind_eq_some_iff.1 hx
 split at hx
 rotate_left
 ·
  cases hx
 rename_i h1
 obtain ⟨os, u5, hx⟩ := Option.bind_eq_some_iff.1 hx
 obtain rfl := Option.some.inj hx
 obtain ⟨e1, e2, e3, e4, h4, h5, h6, h7, h8⟩ := h1
 simp only at e1 e2 e3 e4 h4 h5 h6 h7 h8 u1 u2 u3 u4 u5
 subst e1 e2 e3 e4
 exact cie_ok w0 w g m A0 n0 c0 addr cs fs pm h A c b hC hc h0.1 h0.2.1 h0.2.2 _ _ _ _ (uR_eq u1) (sR_eq u2) (uR_eq u3) (uR_eq u4) h4 h5 _ rfl ⟨h6, h7⟩ _ _ _ (by rw [← h8]; rfl) os (opsV_eq u5).1 (opsV_eq u5).2 first hf hcl hpl
def fdeV (addr : Int) (cs : List S69) (pm : List (Int × Int)) (place id : Int) (b : List Int) : Option S46 :=
  (lookI pm (wrap64 (place - id))).bind fun kq => if 0 ≤ kq ∧ kq < cs.length then
    (getV b 4 (rd_T69 cs kq).f0 (wrap64 (addr + place))).bind fun p1 => (getV b p1.2 (Go.bits .and .i64 (rd_T69 cs kq).f0 15) 0).bind fun p2 => (uR b p2.2).bind fun p3 =>
      if p3.1 = 0 ∧ 0 ≤ p3.2 ∧ p3.2 ≤ b.length then (opsV (b.drop p3.2.toNat)).bind fun os => some ⟨kq, p1.1, p2.1, trim os⟩ else none
  else none
theorem wrap64_range (a : Int) : -9223372036854775808 ≤ wrap64 a ∧ wrap64 a ≤ 9223372036854775807 := by unfold wrap64; omega
theorem fde_calls (w0 w : World) (g m : Nat) (A0 : Option Addr) (n0 c0 : Nat) (addr : Int) (cs : List S69) (fs : List S46) (pm : List (Int × Int)) (h : St w0 w g m A0 n0 c0 addr cs fs pm) (A : Option Addr) (c : Nat) (b : List Int) (hC : Kd.C (Kd.int .u8) w0 A b.length b) (hc : b.length ≤ c) (place id : Int) (x : S46) (hx : fdeV addr cs pm place id b = some x) (hfl : fs.length ≤ 2097152) :
    Calls Try.prog 57 #[.pointer (some ⟨g, 0, none⟩), .slice A b.length c, .int .i64 place, .int .i64 id] w fun e w' => e = .returned (.tuple #[]) ∧ St w0 w' g m A0 n0 c0 addr cs (fs ++ [x]) pm := by
 unfold fdeV at hx
 obtain ⟨kq, hl, hx⟩ := Option.bind_eq_some_iff.1 hx
 split at hx
 rotate_left
 ·
  cases hx
 rename_i h0
 obtain ⟨⟨v1, e1⟩, u1, hx⟩ := Option.bind_eq_some_iff.1 hx
 obtain ⟨⟨v2, e2⟩, u2, hx⟩ := Option.bind_eq_some_iff.1 hx
 obtain ⟨⟨n3, e3⟩, u3, hx⟩ := Option.bind_eq_some_iff.1 hx
 split at hx
 rotate_left
 ·
  cases hx
 rename_i h1
 obtain ⟨os, u5, hx⟩ := Option.bind_eq_some_iff.1 hx
 obtain rfl := Option.some.inj hx
 obtain ⟨e3, h4, h5⟩ := h1
 simp only at e3 h4 h5 u1 u2 u3 u5
 subst e3
 exact fde_ok w0 w g m A0 n0 c0 addr cs fs pm h A c b hC hc place id _ kq rfl (wrap64_range _) hl h0.1 h0.2 _ _ rfl rfl 60 v1 v2 e1 e2 _ _ rfl (getV_eq u1) (getV_eq u2) (uR_eq u3) h4 h5 os (opsV_eq u5).1 (opsV_eq u5).2 hfl
def finV (cs : List S69) (fs : List S46) : Option (List S69 × List S46 × Int) := if ehframe_Check.f 0 cs fs = some 0 then some (cs, fs, 0) else none
theorem finV_eq {cs r1 : List S69} {fs r2 : List S46} {r3 : Int} (h : finV cs fs = some (r1, r2, r3)) : cs = r1 ∧ fs = r2 ∧ 0 = r3 ∧ ehframe_Check.f 0 cs fs = some 0 := by
 unfold finV at h
 split at h
 ·
  rename_i hc
  have := Option.some.inj h
  simp only [Prod.mk.injEq] at this
  exact ⟨this.1, this.2.1, this.2.2, hc⟩
 cases h
theorem below_at {w W : World} {B p : Nat} {o : Obj} (hb : Below B w W) (h : w.heap[p]? = some o) (hp : p < B) : W.heap[p]? = some o := (hb.block p hp).trans h
theorem final_ {W : World} {p g m n0 c0 : Nat} {A0 : Option Addr} {addr : Int} {v x y : Value} (hp : W.heap[p]? = some (.cells #[v] 24 (0, 0))) (hq : W.heap[p + 1]? = some (.cells #[x] 25 (0, 0))) (hr : W.heap[p + 1 + 1]? = some (.cells #[y] 30 (0, 0))) (vc vf : Value) (hg : Cells W g m A0 n0 c0 addr vc vf) (hne : p + 1 + 1 < g) :
    W.cell? ⟨p, 0, none⟩ = some v ∧ W.frozen? ⟨p, 0, none⟩ = false ∧ (W.setCell ⟨p, 0, none⟩ vc).cell? ⟨p + 1, 0, none⟩ = some x ∧ (W.setCell ⟨p, 0, none⟩ vc).frozen? ⟨p + 1, 0, none⟩ = false ∧
    ((W.setCell ⟨p, 0, none⟩ vc).setCell ⟨p + 1, 0, none⟩ vf).cell? ⟨p + 1 + 1, 0, none⟩ = some y ∧ ((W.setCell ⟨p, 0, none⟩ vc).setCell ⟨p + 1, 0, none⟩ vf).frozen? ⟨p + 1 + 1, 0, none⟩ = false ∧
    ((W.setCell ⟨p, 0, none⟩ vc).cell? ⟨g, 2, none⟩ = some vc ∧ (W.setCell ⟨p, 0, none⟩ vc).cell? ⟨g, 3, none⟩ = some vf) ∧
    (((W.setCell ⟨p, 0, none⟩ vc).setCell ⟨p + 1, 0, none⟩ vf).cell? ⟨g, 2, none⟩ = some vc ∧ ((W.setCell ⟨p, 0, none⟩ vc).setCell ⟨p + 1, 0, none⟩ vf).cell? ⟨g, 3, none⟩ = some vf) ∧
    W.cell? ⟨p + 1, 0, none⟩ = some x ∧ W.cell? ⟨p + 1 + 1, 0, none⟩ = some y ∧
    (((W.setCell ⟨p, 0, none⟩ vc).setCell ⟨p + 1, 0, none⟩ vf).setCell ⟨p + 1 + 1, 0, none⟩ (.int .i64 0)).heap[p]? = some (.cells #[vc] 24 (0, 0)) ∧
    (((W.setCell ⟨p, 0, none⟩ vc).setCell ⟨p + 1, 0, none⟩ vf).setCell ⟨p + 1 + 1, 0, none⟩ (.int .i64 0)).heap[p + 1]? = some (.cells #[vf] 25 (0, 0)) ∧
    (((W.setCell ⟨p, 0, none⟩ vc).setCell ⟨p + 1, 0, none⟩ vf).setCell ⟨p + 1 + 1, 0, none⟩ (.int .i64 0)).heap[p + 1 + 1]? = some (.cells #[.int .i64 0] 30 (0, 0)) := by
 have a0 := blk_put hp 0 vc rfl
 have a1 := blk_far hq (show p + 1 ≠ (⟨p, 0, none⟩ : Addr).block by show p + 1 ≠ p; omega) vc
 have a2 := blk_far hr (show p + 1 + 1 ≠ (⟨p, 0, none⟩ : Addr).block by show p + 1 + 1 ≠ p; omega) vc
 have a3 := blk_far hg (show g ≠ (⟨p, 0, none⟩ : Addr).block by show g ≠ p; omega) vc
 have b0 := blk_far a0 (show p ≠ (⟨p + 1, 0, none⟩ : Addr).block by show p ≠ p + 1; omega) vf
 have b1 := blk_put a1 0 vf rfl
 have b2 := blk_far a2 (show p + 1 + 1 ≠ (⟨p + 1, 0, none⟩ : Addr).block by show p + 1 + 1 ≠ p + 1; omega) vf
 have b3 := blk_far a3 (show g ≠ (⟨p + 1, 0, none⟩ : Addr).block by show g ≠ p + 1; omega) vf
 have d0 := blk_far b0 (show p ≠ (⟨p + 1 + 1, 0, none⟩ : Addr).block by show p ≠ p + 1 + 1; omega) (.int .i64 0)
 have d1 := blk_far b1 (show p + 1 ≠ (⟨p + 1 + 1, 0, none⟩ : Addr).block by show p + 1 ≠ p + 1 + 1; omega) (.int .i64 0)
 have d2 := blk_put b2 0 (.int .i64 0) rfl
 exact ⟨(blk_cell hp 0).trans rfl, blk_frozen hp 0, (blk_cell a1 0).trans rfl, blk_frozen a1 0, (blk_cell b2 0).trans rfl, blk_frozen b2 0, ⟨(blk_cell a3 2).trans rfl, (blk_cell a3 3).trans rfl⟩, ⟨(blk_cell b3 2).trans rfl, (blk_cell b3 3).trans rfl⟩, (blk_cell hq 0).trans rfl, (blk_cell hr 0).trans rfl, d0, d1, d2⟩
theorem ended_ {w w0 W : World} {g m n0 c0 pl : Nat} {A0 : Option Addr} {addr : Int} {cs : List S69} {fs : List S46} {pm : List (Int × Int)} {vc vf a b d : Value} (h : StV w0 W g m A0 n0 c0 addr cs fs pm vc vf) (hs : w0.heap.size = pl + 1 + 1 + 1) (hpl : pl = w.heap.size) (hb : Below w.heap.size w w0) :
    Kd.S k69 69 (((W.setCell ⟨pl, 0, none⟩ a).setCell ⟨pl + 1, 0, none⟩ b).setCell ⟨pl + 1 + 1, 0, none⟩ d) w.heap.size (fun _ => True) vc cs ∧ Kd.S k46 46 (((W.setCell ⟨pl, 0, none⟩ a).setCell ⟨pl + 1, 0, none⟩ b).setCell ⟨pl + 1 + 1, 0, none⟩ d) w.heap.size (fun _ => True) vf fs ∧ Below w.heap.size w (((W.setCell ⟨pl, 0, none⟩ a).setCell ⟨pl + 1, 0, none⟩ b).setCell ⟨pl + 1 + 1, 0, none⟩ d) := by
 have hle : w.heap.size ≤ w0.heap.size := by omega
 have far : ∀ {α : Type} {dk : Kd α} {e : Nat} {v : Value} {xs : List α}, Kd.S dk e W w0.heap.size (fun _ => True) v xs → Kd.S dk e (((W.setCell ⟨pl, 0, none⟩ a).setCell ⟨pl + 1, 0, none⟩ b).setCell ⟨pl + 1 + 1, 0, none⟩ d) w.heap.size (fun _ => True) v xs := by
  intro α dk e v xs hS
  have h1 := Kd.S_mono (ok' := fun k => w0.heap.size ≤ k) (Kd.S_bound hS) (fun k hk => hk.2.1)
  have h2 := Kd.S_far (Kd.S_far (Kd.S_far h1 (p := ⟨pl, 0, none⟩) (fun k hk => by show k ≠ pl; omega) a) (p := ⟨pl + 1, 0, none⟩) (fun k hk => by show k ≠ pl + 1; omega) b) (p := ⟨pl + 1 + 1, 0, none⟩) (fun k hk => by show k ≠ pl + 1 + 1; omega) d
  exact Kd.S_mono (Kd.S_lower h2 hle) (fun _ _ => trivial)
 exact ⟨far h.hc, far h.hf, (((hb.trans (h.hb.mono hle)).setCell (by show w.heap.size ≤ pl; omega) _).setCell (by show w.heap.size ≤ pl + 1; omega) _).setCell (by show w.heap.size ≤ pl + 1 + 1; omega) _⟩
theorem St.hb {w0 w : World} {g m n0 c0 : Nat} {A0 : Option Addr} {addr : Int} {cs : List S69} {fs : List S46} {pm : List (Int × Int)} (h : St w0 w g m A0 n0 c0 addr cs fs pm) : Below w0.heap.size w0 w := by
 obtain ⟨_, _, h⟩ := h
 exact h.hb
def readR (l : List Int) (addr : Int) : Nat → Int → List S69 → List S46 → List (Int × Int) → Option (List S69 × List S46 × Int)
  | 0, _, _, _, _ => none
  | k + 1, at_, cs, fs, pm => if at_ < (l.length : Int) then
      (if 0 ≤ at_ then (gR l at_).bind fun n =>
        if n = 0 then (if at_ + 4 = (l.length : Int) then finV cs fs else none)
        else if Int.tmod n 4 = 0 ∧ 0 ≤ n then
          (if (l.length : Int) - at_ - 4 < n then some ([], [], 140)
          else (gR ((l.take (at_ + 4 + n).toNat).drop (at_ + 4).toNat) 0).bind fun id =>
            if id = 0 then (cieV ((l.take (at_ + 4 + n).toNat).drop (at_ + 4).toNat)).bind fun x => if cs.length ≤ 2097152 ∧ pm.length ≤ 2097152 then readR l addr k (at_ + 4 + n) (cs ++ [x]) fs ((at_, (cs.length : Int)) :: pm) else none
            else (fdeV addr cs pm (at_ + 4) id ((l.take (at_ + 4 + n).toNat).drop (at_ + 4).toNat)).bind fun x => if fs.length ≤ 2097152 then readR l addr k (at_ + 4 + n) cs (fs ++ [x]) pm else none)
        else none
      else none)
    else finV cs fs
def readF (l : List Int) (addr : Int) : Option (List S69 × List S46 × Int) := if l.length ≤ 1048576 ∧ 0 ≤ addr ∧ addr ≤ 576460752303423488 then readR l addr (l.length + 1) 0 [] [] [] else none
def Post (w : World) (r1 : List S69) (r2 : List S46) (r3 : Int) (e : Ending) (w' : World) : Prop := ∃ v0_ v1_ : Value, e = .returned (.tuple #[v0_, v1_, .int .i64 r3]) ∧ Kd.S k69 69 w' w.heap.size (fun _ => True) v0_ r1 ∧ Kd.S k46 46 w' w.heap.size (fun _ => True) v1_ r2 ∧ Below w.heap.size w w'
set_option maxHeartbeats 4000000 in
theorem read_calls (A0 : Option Addr) (c0 : Nat) (l0 : List Int) (addr : Int) (r1 : List S69) (r2 : List S46) (r3 : Int) (w : World) (hr0 : Kd.C (Kd.int .u8) w A0 l0.length l0) (hc0 : l0.length ≤ c0) (h : readF l0 addr = some (r1, r2, r3)) :
    Calls Try.prog 21 #[.slice A0 l0.length c0, .int .i64 addr] w (Post w r1 r2 r3) := by
 unfold readF at h
 split at h
 case isFalse => cases h
 rename_i hh
 obtain ⟨hlen, ha0, ha1⟩ := hh
 have HR0 := am hr0
 have HC0 := am hc0
 have HL := am hlen
 have f0 : decide ((l0.length : Int) > 1048576) = false := decide_eq_false (by omega)
 have f0b : decide (1048576 < l0.length) = false := decide_eq_false (by omega)
 have f1 : decide (addr < 0) = false := decide_eq_false (by omega)
 have f2 : decide (addr > 576460752303423488) = false := decide_eq_false (by omega)
 have f2b : decide (576460752303423488 < addr) = false := f2
 obtain ⟨K, hK⟩ : ∃ K, K = l0.length + 1 := ⟨_, rfl⟩
 rw [← hK] at h
 have HH := am h
 have hmf : ∀ (fn : Fn) (first cap : Array Value) (w : World), (Instr.makeFunc fn first cap).run Try.prog w = .ok (.func fn first cap) w := fun _ _ _ _ => rfl
 clear hr0 hc0 h hlen ha0 ha1
 go_enter_defers Try.func21, Try.ntmps21
 have hmm := @run_makeMap_plain Try.prog
 go_wp2
 obtain ⟨pl, hpl⟩ : ∃ pl, pl = w.heap.size := ⟨_, rfl⟩
 obtain ⟨w0, hw0⟩ : ∃ w0, w0 = ((w.alloc (.cells #[.slice none 0 0] 24)).alloc (.cells #[.slice none 0 0] 25)).alloc (.cells #[.int .i64 0] 30) := ⟨_, rfl⟩
 have hs0 : w0.heap.size = pl + 1 + 1 + 1 := by rw [hw0, hpl, World.size_alloc, World.size_alloc, World.size_alloc]
 have hp0 : w0.heap[pl]? = some (.cells #[.slice none 0 0] 24 (0, 0)) := by
  rw [hw0, hpl]
  exact blk_alloc (blk_alloc (blk_new w _) _) _
 have hp1 : w0.heap[pl + 1]? = some (.cells #[.slice none 0 0] 25 (0, 0)) := by
  rw [hw0, hpl]
  have := blk_new (w.alloc (.cells #[.slice none 0 0] 24)) (.cells #[.slice none 0 0] 25)
  rw [World.size_alloc] at this
  exact blk_alloc this _
 have hp2 : w0.heap[pl + 1 + 1]? = some (.cells #[.int .i64 0] 30 (0, 0)) := by
  rw [hw0, hpl]
  have := blk_new ((w.alloc (.cells #[.slice none 0 0] 24)).alloc (.cells #[.slice none 0 0] 25)) (.cells #[.int .i64 0] 30)
  rw [World.size_alloc, World.size_alloc] at this
  exact this
 have hb0 : Below w.heap.size w w0 := by
  rw [hw0]
  exact below_alloc (below_alloc (below_alloc (Below.refl _ _) _) _) _
 have hst0 : St w0 ((w0.alloc (.map #[] 0)).alloc (.cells #[.slice A0 l0.length c0, .int .i64 addr, .slice none 0 0, .slice none 0 0, .map (some w0.heap.size)] 101)) (w0.heap.size + 1) w0.heap.size A0 l0.length c0 addr [] [] [] := by
  refine ⟨.slice none 0 0, .slice none 0 0, { blk := ?_, hc := Kd.S_nil _ _ _ _ _, hf := Kd.S_nil _ _ _ _ _, hm := ?_, lg := Nat.le_succ _, lm := Nat.le_refl _, ne := by omega, hb := below_alloc (below_alloc (Below.refl _ _) _) _ }⟩
  ·
   have := blk_new (w0.alloc (.map #[] 0)) (.cells #[.slice A0 l0.length c0, .int .i64 addr, .slice none 0 0, .slice none 0 0, .map (some w0.heap.size)] 101)
   rw [World.size_alloc] at this
   exact this
  rw [intF_nil]
  exact (MapF.made Try.prog 3 3 w0).kept (grown_of_below (below_alloc (Below.refl _ _) _) none) (Option.some_ne_none _)
 rw [hs0] at hst0
 rw [← hw0, ← hpl]
 have HST := am hst0
 have HP0 := am hp0
 have HP1 := am hp1
 have HP2 := am hp2
 have HB0 := am hb0
 have HS0 := am hs0
 have HPL := am hpl
 have HC := am (Kd.C_below HR0.out hb0)
 clear hst0 hp0 hp1 hp2 hb0 hs0 hpl hw0 f0 f0b f1 f2 f2b hmf hmm
 go_loopg [8] K (fun kq v8 w' => ∃ (at_ : Int) (cs : List S69) (fs : List S46) (pm : List (Int × Int)), v8 = .int .i64 at_ ∧ Aside0 (readR l0 addr kq at_ cs fs pm = some (r1, r2, r3)) ∧ Aside0 (St w0 w' (pl + 1 + 1 + 1 + 1) (pl + 1 + 1 + 1) A0 l0.length c0 addr cs fs pm))
 case atStart => exact ⟨0, [], [], [], rfl, HH, HST⟩
 case round =>
  clear HST HH
  obtain ⟨at_, cs, fs, pm, rfl, HH, HST⟩ := hrel
  cases gk with
  | zero => exact absurd HH.out (by simp [readR])
  | succ k1 =>
   have H := HH.out
   clear HH
   rw [readR] at H
   by_cases c1 : at_ < (l0.length : Int)
   rotate_left
   ·
    rw [if_neg c1] at H
    have e1 : decide (at_ < (l0.length : Int)) = false := decide_eq_false c1
    obtain ⟨rfl, rfl, rfl, hfc⟩ := finV_eq H
    clear H c1
    have HFC := am hfc
    clear hfc
    obtain ⟨vc, vf, hst⟩ := HST.out
    obtain ⟨Av, cv, rfl⟩ := Kd.S_slice hst.hc
    obtain ⟨Af, cf, rfl⟩ := Kd.S_slice hst.hf
    have HST2 := am hst
    have g2 : wr.cell? ⟨pl + 1 + 1 + 1 + 1, 2, none⟩ = some (.slice Av cs.length cv) := (blk_cell hst.blk 2).trans rfl
    have g3 : wr.cell? ⟨pl + 1 + 1 + 1 + 1, 3, none⟩ = some (.slice Af fs.length cf) := (blk_cell hst.blk 3).trans rfl
    clear hst HST
    go_wp2
    refine start_ (n := 12) (S := fun u => u.cell? ⟨pl + 1 + 1 + 1 + 1, 2, none⟩ = some (.slice Av cs.length cv) ∧ u.cell? ⟨pl + 1 + 1 + 1 + 1, 3, none⟩ = some (.slice Af fs.length cf)) (ds := [11]) (bm 12 0) (by kernel_rfl) rfl rfl ?_ (fun hHeld => ?_)
    case refine_1 => exact ⟨by go_simp, by go_simp⟩
    refine pure_ (i := 0) (N := some 98) (v := ?_) (a' := ?_) (bm 12 1) rfl rfl (by kernel_rfl) (fun _ _ _ h => panic_put (by decide) (by decide) (by decide) h) (Or.inl ⟨by rfl, ?_⟩) ?_ ?_
    rotate_left
    ·
     intro u
     go_simp
     with_reducible rfl
    rotate_left
    ·
     simp only [pz]
     rfl
    refine pure_ (i := 1) (N := some 99) (v := ?_) (a' := ?_) (bm 12 3) rfl rfl (by kernel_rfl) (fun _ _ _ h => panic_put (by decide) (by decide) (by decide) h) (Or.inl ⟨by rfl, ?_⟩) ?_ ?_
    rotate_left
    ·
     intro u
     go_simp
     with_reducible rfl
    rotate_left
    ·
     simp only [pz]
     rfl
    refine pure_ (i := 2) (N := some 100) (v := ?_) (a' := ?_) (bm 12 7) rfl rfl (by kernel_rfl) (fun _ _ _ h => panic_put (by decide) (by decide) (by decide) h) (Or.inl ⟨by rfl, ?_⟩) ?_ ?_
    rotate_left
    ·
     intro u
     go_simp
     with_reducible rfl
    rotate_left
    ·
     simp only [pz]
     rfl
    refine pure_ (i := 3) (N := some 101) (v := ?_) (a' := ?_) (bm 12 15) rfl rfl (by kernel_rfl) (fun _ _ _ h => panic_put (by decide) (by decide) (by decide) h) (Or.inl ⟨by rfl, ?_⟩) ?_ ?_
    rotate_left
    ·
     intro u
     go_simp
     with_reducible rfl
    rotate_left
    ·
     simp only [pz]
     rfl
    refine take_ (i := 4) (N := some 102) (v := ?_) (a' := ?_) (bm 12 31) rfl rfl (by kernel_rfl) (fun _ _ _ h => panic_put (by decide) (by decide) (by decide) h) (Or.inl ⟨by rfl, ?_⟩) hHeld ?_ ?_
    rotate_left
    ·
     rintro u ⟨s0, s1⟩
     go_simp
     with_reducible rfl
    rotate_left
    ·
     simp only [pz]
     rfl
    refine pure_ (i := 5) (N := some 103) (v := ?_) (a' := ?_) (bm 12 63) rfl rfl (by kernel_rfl) (fun _ _ _ h => panic_put (by decide) (by decide) (by decide) h) (Or.inl ⟨by rfl, ?_⟩) ?_ ?_
    rotate_left
    ·
     intro u
     go_simp
     with_reducible rfl
    rotate_left
    ·
     simp only [pz]
     rfl
    refine pure_ (i := 6) (N := some 104) (v := ?_) (a' := ?_) (bm 12 127) rfl rfl (by kernel_rfl) (fun _ _ _ h => panic_put (by decide) (by decide) (by decide) h) (Or.inl ⟨by rfl, ?_⟩) ?_ ?_
    rotate_left
    ·
     intro u
     go_simp
     with_reducible rfl
    rotate_left
    ·
     simp only [pz]
     rfl
    refine pure_ (i := 7) (N := some 105) (v := ?_) (a' := ?_) (bm 12 255) rfl rfl (by kernel_rfl) (fun _ _ _ h => panic_put (by decide) (by decide) (by decide) h) (Or.inl ⟨by rfl, ?_⟩) ?_ ?_
    rotate_left
    ·
     intro u
     go_simp
     with_reducible rfl
    rotate_left
    ·
     simp only [pz]
     rfl
    refine take_ (i := 8) (N := some 106) (v := ?_) (a' := ?_) (bm 12 511) rfl rfl (by kernel_rfl) (fun _ _ _ h => panic_put (by decide) (by decide) (by decide) h) (Or.inl ⟨by rfl, ?_⟩) hHeld ?_ ?_
    rotate_left
    ·
     rintro u ⟨s0, s1⟩
     go_simp
     with_reducible rfl
    rotate_left
    ·
     simp only [pz]
     rfl
    refine one_ (i := 9) (N := some 107) (bm 12 1023) rfl rfl (by kernel_rfl) (by decide) (fun K hK => ?_)
    refine goes_ Try.func12 (by kernel_rfl) rfl #[.slice Av cs.length cv, .slice Af fs.length cf] (by rfl) rfl rfl (by (try simp only [ml]); first | done | rfl) ?_
    refine (ehframe_Check.calls 0 Av cv cs Af cf fs 0 _ (Kd.S_reads' HST2.out.drew.hc).2.2 (Kd.S_reads' HST2.out.drew.hc).2.1 (Kd.S_reads' HST2.out.drew.hf).2.2 (Kd.S_reads' HST2.out.drew.hf).2.1 HFC.out).mono ?_
    rintro e wx ⟨rfl, hb⟩
    refine ⟨_, rfl, ?_⟩
    have HST3 := am (HST2.out.drew.below hb)
    have g4 : wx.cell? ⟨pl + 1 + 1 + 1 + 1, 2, none⟩ = some (.slice Av cs.length cv) := (blk_cell HST3.out.blk 2).trans rfl
    have g5 : wx.cell? ⟨pl + 1 + 1 + 1 + 1, 3, none⟩ = some (.slice Af fs.length cf) := (blk_cell HST3.out.blk 3).trans rfl
    clear hb hHeld g2 g3
    refine hK.out _ _ ⟨g4, g5⟩ (fun hHeld => ?_)
    clear hK K
    refine norm_ (a' := ?_) ?_ ?_
    rotate_left
    ·
     show Act.put _ (some 107) _ = _
     simp only [pz]
     rfl
    refine pure_ (i := 10) (N := some 108) (v := ?_) (a' := ?_) (bm 12 2047) rfl rfl (by kernel_rfl) (fun _ _ _ h => panic_put (by decide) (by decide) (by decide) h) (Or.inl ⟨by rfl, ?_⟩) ?_ ?_
    rotate_left
    ·
     intro u
     go_simp
     with_reducible rfl
    rotate_left
    ·
     simp only [pz]
     rfl
    refine last_ (i := 11) (N := some 109) (bm 12 4095) rfl rfl (by kernel_rfl) (by decide) (fun K hK => ?_)
    refine goes_ Try.func55 (by kernel_rfl) rfl #[.pointer (some ⟨pl + 1 + 1 + 1 + 1, 0, none⟩), .bool false] (by rfl) rfl rfl (by (try simp only [ml]); first | done | rfl) ?_
    refine (fail_no _ _).mono ?_
    rintro e wy ⟨rfl, hwy⟩
    subst hwy
    refine ⟨_, rfl, ?_⟩
    clear hHeld
    refine hK.out _ _ ?_
    clear hK K
    refine done_ (by kernel_rfl) ?_
    go_wp2
    have hp0 : wy.drew.heap[pl]? = some (.cells #[.slice none 0 0] 24 (0, 0)) := blk_drew (below_at HST3.out.hb HP0.out (by have := HS0.out; omega))
    have hp1 : wy.drew.heap[pl + 1]? = some (.cells #[.slice none 0 0] 25 (0, 0)) := blk_drew (below_at HST3.out.hb HP1.out (by have := HS0.out; omega))
    have hp2 : wy.drew.heap[pl + 1 + 1]? = some (.cells #[.int .i64 0] 30 (0, 0)) := blk_drew (below_at HST3.out.hb HP2.out (by have := HS0.out; omega))
    obtain ⟨x0, x1, x2, x3, x4, x5, x6, x7, x8, x9, x10, x11, x12⟩ := final_ hp0 hp1 hp2 (.slice Av cs.length cv) (.slice Af fs.length cf) HST3.out.drew.blk (by omega)
    have HX10 := am x10
    have HX11 := am x11
    have HX12 := am x12
    have HSTD := am HST3.out.drew
    clear hp0 hp1 hp2 x10 x11 x12
    refine start_ (n := 11) (S := fun u => u.cell? ⟨pl + 1 + 1 + 1 + 1, 2, none⟩ = some (.slice Av cs.length cv) ∧ u.cell? ⟨pl + 1 + 1 + 1 + 1, 3, none⟩ = some (.slice Af fs.length cf)) (ds := [10]) (bm 11 0) (by kernel_rfl) rfl rfl ?_ (fun hHeld => ?_)
    case refine_1 => exact ⟨by go_simp, by go_simp⟩
    refine pure_ (i := 0) (N := some 110) (v := ?_) (a' := ?_) (bm 11 1) rfl rfl (by kernel_rfl) (fun _ _ _ h => panic_put (by decide) (by decide) (by decide) h) (Or.inl ⟨by rfl, ?_⟩) ?_ ?_
    rotate_left
    ·
     intro u
     go_simp
     with_reducible rfl
    rotate_left
    ·
     simp only [pz]
     rfl
    refine pure_ (i := 1) (N := some 111) (v := ?_) (a' := ?_) (bm 11 3) rfl rfl (by kernel_rfl) (fun _ _ _ h => panic_put (by decide) (by decide) (by decide) h) (Or.inl ⟨by rfl, ?_⟩) ?_ ?_
    rotate_left
    ·
     intro u
     go_simp
     with_reducible rfl
    rotate_left
    ·
     simp only [pz]
     rfl
    refine pure_ (i := 2) (N := some 112) (v := ?_) (a' := ?_) (bm 11 7) rfl rfl (by kernel_rfl) (fun _ _ _ h => panic_put (by decide) (by decide) (by decide) h) (Or.inl ⟨by rfl, ?_⟩) ?_ ?_
    rotate_left
    ·
     intro u
     go_simp
     with_reducible rfl
    rotate_left
    ·
     simp only [pz]
     rfl
    refine take_ (i := 3) (N := some 113) (v := ?_) (a' := ?_) (bm 11 15) rfl rfl (by kernel_rfl) (fun _ _ _ h => panic_put (by decide) (by decide) (by decide) h) (Or.inl ⟨by rfl, ?_⟩) hHeld ?_ ?_
    rotate_left
    ·
     rintro u ⟨s0, s1⟩
     go_simp
     with_reducible rfl
    rotate_left
    ·
     simp only [pz]
     rfl
    refine pure_ (i := 4) (N := some 114) (v := ?_) (a' := ?_) (bm 11 31) rfl rfl (by kernel_rfl) (fun _ _ _ h => panic_put (by decide) (by decide) (by decide) h) (Or.inl ⟨by rfl, ?_⟩) ?_ ?_
    rotate_left
    ·
     intro u
     go_simp
     with_reducible rfl
    rotate_left
    ·
     simp only [pz]
     rfl
    refine pure_ (i := 5) (N := some 115) (v := ?_) (a' := ?_) (bm 11 63) rfl rfl (by kernel_rfl) (fun _ _ _ h => panic_put (by decide) (by decide) (by decide) h) (Or.inl ⟨by rfl, ?_⟩) ?_ ?_
    rotate_left
    ·
     intro u
     go_simp
     with_reducible rfl
    rotate_left
    ·
     simp only [pz]
     rfl
    refine pure_ (i := 6) (N := some 116) (v := ?_) (a' := ?_) (bm 11 127) rfl rfl (by kernel_rfl) (fun _ _ _ h => panic_put (by decide) (by decide) (by decide) h) (Or.inl ⟨by rfl, ?_⟩) ?_ ?_
    rotate_left
    ·
     intro u
     go_simp
     with_reducible rfl
    rotate_left
    ·
     simp only [pz]
     rfl
    refine take_ (i := 7) (N := some 117) (v := ?_) (a' := ?_) (bm 11 255) rfl rfl (by kernel_rfl) (fun _ _ _ h => panic_put (by decide) (by decide) (by decide) h) (Or.inl ⟨by rfl, ?_⟩) hHeld ?_ ?_
    rotate_left
    ·
     rintro u ⟨s0, s1⟩
     go_simp
     with_reducible rfl
    rotate_left
    ·
     simp only [pz]
     rfl
    refine one_ (i := 8) (N := none) (bm 11 511) rfl rfl (by kernel_rfl) (by decide) (fun K hK => ?_)
    generalize wy.drew = wz at HSTD x0 x1 x2 x3 x4 x5 x6 x7 x8 x9 HX10 HX11 HX12 hHeld hK ⊢
    rw [if_pos (by rfl)]
    go_simp
    refine hK.out _ _ x6 (fun hHeld => ?_)
    clear hK K
    refine one_ (i := 9) (N := none) (bm 11 1023) rfl rfl (by kernel_rfl) (by decide) (fun K hK => ?_)
    rw [if_pos (by rfl)]
    go_simp
    refine hK.out _ _ x7 (fun hHeld => ?_)
    clear hK K
    refine last_ (i := 10) (N := none) (bm 11 2047) rfl rfl (by kernel_rfl) (by decide) (fun K hK => ?_)
    rw [if_pos (by rfl)]
    go_simp
    refine hK.out _ _ ?_
    clear hK K
    refine done_ (by kernel_rfl) ?_
    go_wp2
    refine leaves_cons (f := 54) (args := #[.pointer (some ⟨pl, 0, none⟩), .pointer (some ⟨pl + 1, 0, none⟩), .pointer (some ⟨pl + 1 + 1, 0, none⟩)]) (by simp) (by simp [go_sem]) ?_
    refine (read_idle _ _ _ _).mono ?_
    rintro e u' w6 ⟨rfl, rfl, rfl⟩
    refine ⟨.tuple #[.slice Av cs.length cv, .slice Af fs.length cf, .int .i64 0], results3c (p := 4) (q := 5) (r := 6) rfl _ _ _ ⟨pl, 0, none⟩ ⟨pl + 1, 0, none⟩ ⟨pl + 1 + 1, 0, none⟩ (.slice Av cs.length cv) (.slice Af fs.length cf) (.int .i64 0) rfl rfl rfl Try.underlying24 Try.underlying25 Try.underlying30 ((blk_cell HX10.out 0).trans rfl) ((blk_cell HX11.out 0).trans rfl) ((blk_cell HX12.out 0).trans rfl), .slice Av cs.length cv, .slice Af fs.length cf, rfl, ?_⟩
    exact ended_ HSTD.out HS0.out HPL.out HB0.out
   rw [if_pos c1] at H
   by_cases c2 : 0 ≤ at_
   rotate_left
   ·
    rw [if_neg c2] at H
    cases H
   rw [if_pos c2] at H
   obtain ⟨n, hn, H⟩ := Option.bind_eq_some_iff.1 H
   have hll := HL.out
   have HN := am (gR_eq hn)
   have e1 : decide (at_ < (l0.length : Int)) = true := decide_eq_true c1
   have HSTB := am HST.out.hb
   clear hn
   by_cases c3 : n = 0
   rotate_left
   ·
    rw [if_neg c3] at H
    by_cases c4 : Int.tmod n 4 = 0 ∧ 0 ≤ n
    rotate_left
    ·
     rw [if_neg c4] at H
     cases H
    rw [if_pos c4] at H
    have m0 : (n == 0) = false := beq_eq_false_iff_ne.mpr c3
    have m1 : (Int.tmod n 4 == 0) = true := beq_iff_eq.mpr c4.1
    have m2 := c4.1
    have hw1 : wrap64 ((l0.length : Int) - at_) = (l0.length : Int) - at_ := by unfold wrap64; omega
    have hw1i : IntKind.i64.wrap ((l0.length : Int) - at_) = (l0.length : Int) - at_ := by rw [IntKind.wrap_i64]; omega
    have hw2 : wrap64 ((l0.length : Int) - at_ - 4) = (l0.length : Int) - at_ - 4 := by unfold wrap64; omega
    have hw2i : IntKind.i64.wrap ((l0.length : Int) - at_ - 4) = (l0.length : Int) - at_ - 4 := by rw [IntKind.wrap_i64]; omega
    by_cases c5 : (l0.length : Int) - at_ - 4 < n
    ·
     rw [if_pos c5] at H
     obtain ⟨rfl, rfl, rfl⟩ : [] = r1 ∧ [] = r2 ∧ 140 = r3 := by
       have := Option.some.inj H
       simp only [Prod.mk.injEq] at this
       exact this
     have m3 : decide (n > (l0.length : Int) - at_ - 4) = true := decide_eq_true c5
     have m3b : decide ((l0.length : Int) - at_ - 4 < n) = true := m3
     clear H c1 c2 c3 c4 c5 hll
     go_wp2_with fail
     refine (leb_Get.calls 12 A0 c0 l0 at_ 4 false n 0 _ (Kd.C_below HC.out HST.out.hb) HC0.out HN.out).mono ?_
     rintro e w1 ⟨rfl, hd⟩
     have HST1 := am (HST.out.below hd.below)
     clear hd HST
     go_wp2_with fail
     refine (fail_no _ _).mono ?_
     rintro e w2 ⟨rfl, hw2_⟩
     subst hw2_
     go_wp2_with fail
     refine (fail_yes _ _).mono ?_
     rintro e w3 ⟨rfl, hw3_⟩
     subst hw3_
     have q0 := below_at HST1.out.hb HP0.out (by have := HS0.out; omega)
     have q1 := below_at HST1.out.hb HP1.out (by have := HS0.out; omega)
     have q2 := below_at HST1.out.hb HP2.out (by have := HS0.out; omega)
     have hbw : Below pl w w3 := by rw [HPL.out]; exact HB0.out.trans (HST1.out.hb.mono (by have := HS0.out; have := HPL.out; omega))
     exact read_gives_up w w3 _ pl _ _ _ HPL.out rfl rfl rfl q0 q1 q2 hbw
    rw [if_neg c5] at H
    have m3 : decide (n > (l0.length : Int) - at_ - 4) = false := decide_eq_false c5
    have m3b : decide ((l0.length : Int) - at_ - 4 < n) = false := m3
    have h4 : wrap64 (at_ + 4) = at_ + 4 := by unfold wrap64; omega
    have h4i : IntKind.i64.wrap (at_ + 4) = at_ + 4 := by rw [IntKind.wrap_i64]; omega
    have h4n : wrap64 (at_ + 4 + n) = at_ + 4 + n := by unfold wrap64; omega
    have h4ni : IntKind.i64.wrap (at_ + 4 + n) = at_ + 4 + n := by rw [IntKind.wrap_i64]; omega
    have h5 : wrap64 (4 + n) = 4 + n := by unfold wrap64; omega
    have h5i : IntKind.i64.wrap (4 + n) = 4 + n := by rw [IntKind.wrap_i64]; omega
    have h6 : wrap64 (at_ + (4 + n)) = at_ + 4 + n := by unfold wrap64; omega
    have h6i : IntKind.i64.wrap (at_ + (4 + n)) = at_ + 4 + n := by rw [IntKind.wrap_i64]; omega
    obtain ⟨A4, c4', hl4, hcut4, hC4⟩ := cut_mid1 A0 c0 l0 (at_ + 4) (at_ + 4 + n) (at_ + 4).toNat (at_ + 4 + n).toNat (by omega) (by omega) (by omega) (by omega) HC0.out
    obtain ⟨b, hb⟩ : ∃ b, (l0.take (at_ + 4 + n).toNat).drop (at_ + 4).toNat = b := ⟨_, rfl⟩
    rw [hb] at hl4 hcut4 hC4 H
    obtain ⟨id, hid, H⟩ := Option.bind_eq_some_iff.1 H
    have HID := am (gR_eq hid)
    have HL4 := am hl4
    have HC4 := am (hC4 w0 HC.out)
    have HAT := am (show 0 ≤ at_ ∧ at_ ≤ 2097152 by omega)
    clear hb hid hl4 hC4 c1 c2 c3 c4 c5 hll
    by_cases c6 : id = 0
    ·
     rw [if_pos c6] at H
     subst c6
     obtain ⟨x, hx, H⟩ := Option.bind_eq_some_iff.1 H
     by_cases c7 : cs.length ≤ 2097152 ∧ pm.length ≤ 2097152
     rotate_left
     ·
      rw [if_neg c7] at H
      cases H
     rw [if_pos c7] at H
     have HX := am hx
     have HH := am H
     have HCP := am c7
     clear hx H c7
     go_wp2_with fail
     refine (leb_Get.calls 12 A0 c0 l0 at_ 4 false n 0 _ (Kd.C_below HC.out HST.out.hb) HC0.out HN.out).mono ?_
     rintro e w1 ⟨rfl, hd⟩
     have HST1 := am (HST.out.below hd.below)
     clear hd HST
     go_wp2_with fail
     refine (fail_no _ _).mono ?_
     rintro e w2 ⟨rfl, hw2_⟩
     subst hw2_
     go_wp2_with fail
     refine (fail_no _ _).mono ?_
     rintro e w3 ⟨rfl, hw3_⟩
     subst hw3_
     go_wp2_with fail
     refine (leb_Get.calls 12 A4 c4' b 0 4 false 0 0 _ (Kd.C_below HC4.out HST1.out.hb) HL4.out HID.out).mono ?_
     rintro e w4 ⟨rfl, hd⟩
     have HST := am (HST1.out.below hd.below)
     clear hd HST1
     go_wp2_with fail
     refine (fail_no _ _).mono ?_
     rintro e w5 ⟨rfl, hw5_⟩
     subst hw5_
     go_wp2_with fail
     refine (cie_calls w0 _ (pl + 1 + 1 + 1 + 1) (pl + 1 + 1 + 1) A0 l0.length c0 addr cs fs pm HST.out A4 c4' b HC4.out HL4.out x HX.out at_ HAT.out HCP.out.1 HCP.out.2).mono ?_
     rintro e w6 ⟨rfl, hst6⟩
     have HST6 := am hst6
     clear hst6 HST
     go_wp2
     go_roundg k1
     case measure => omega
     case rel => exact ⟨at_ + 4 + n, _, _, _, rfl, HH, HST6⟩
    rw [if_neg c6] at H
    obtain ⟨x, hx, H⟩ := Option.bind_eq_some_iff.1 H
    have m5 : (id == 0) = false := beq_eq_false_iff_ne.mpr c6
    by_cases c7 : fs.length ≤ 2097152
    rotate_left
    ·
     rw [if_neg c7] at H
     cases H
    rw [if_pos c7] at H
    have HX := am hx
    have HH := am H
    have HCP := am c7
    clear hx H c7 c6
    go_wp2_with fail
    refine (leb_Get.calls 12 A0 c0 l0 at_ 4 false n 0 _ (Kd.C_below HC.out HST.out.hb) HC0.out HN.out).mono ?_
    rintro e w1 ⟨rfl, hd⟩
    have HST1 := am (HST.out.below hd.below)
    clear hd HST
    go_wp2_with fail
    refine (fail_no _ _).mono ?_
    rintro e w2 ⟨rfl, hw2_⟩
    subst hw2_
    go_wp2_with fail
    refine (fail_no _ _).mono ?_
    rintro e w3 ⟨rfl, hw3_⟩
    subst hw3_
    go_wp2_with fail
    refine (leb_Get.calls 12 A4 c4' b 0 4 false id 0 _ (Kd.C_below HC4.out HST1.out.hb) HL4.out HID.out).mono ?_
    rintro e w4 ⟨rfl, hd⟩
    have HST := am (HST1.out.below hd.below)
    clear hd HST1
    go_wp2_with fail
    refine (fail_no _ _).mono ?_
    rintro e w5 ⟨rfl, hw5_⟩
    subst hw5_
    go_wp2_with fail
    refine (fde_calls w0 _ (pl + 1 + 1 + 1 + 1) (pl + 1 + 1 + 1) A0 l0.length c0 addr cs fs pm HST.out A4 c4' b HC4.out HL4.out (at_ + 4) id x HX.out HCP.out).mono ?_
    rintro e w6 ⟨rfl, hst6⟩
    have HST6 := am hst6
    clear hst6 HST
    go_wp2
    go_roundg k1
    case measure => omega
    case rel => exact ⟨at_ + 4 + n, _, _, _, rfl, HH, HST6⟩
   rw [if_pos c3] at H
   subst c3
   by_cases c4 : at_ + 4 = (l0.length : Int)
   rotate_left
   ·
    rw [if_neg c4] at H
    cases H
   rw [if_pos c4] at H
   have hwa : wrap64 (at_ + 4) = (l0.length : Int) := by unfold wrap64; omega
   have hwi : IntKind.i64.wrap (at_ + 4) = (l0.length : Int) := by rw [IntKind.wrap_i64]; omega
   have hfc := finV_eq H
   obtain ⟨rfl, rfl, rfl, hfc⟩ := hfc
   clear H c1 c2 c4 hll
   go_wp2_with fail
   refine (leb_Get.calls 12 A0 c0 l0 at_ 4 false 0 0 _ (Kd.C_below HC.out HST.out.hb) HC0.out HN.out).mono ?_
   rintro e w1 ⟨rfl, hd⟩
   have HST1 := am (HST.out.below hd.below)
   clear hd HST
   have HST := HST1
   clear HST1
   go_wp2_with fail
   refine (fail_no _ _).mono ?_
   rintro e w2 ⟨rfl, hw2⟩
   subst hw2
   go_wp2_with fail
   refine (fail_no _ _).mono ?_
   rintro e w3 ⟨rfl, hw3⟩
   subst hw3
   have HFC := am hfc
   clear hfc
   obtain ⟨vc, vf, hst⟩ := HST.out
   obtain ⟨Av, cv, rfl⟩ := Kd.S_slice hst.hc
   obtain ⟨Af, cf, rfl⟩ := Kd.S_slice hst.hf
   have HST2 := am hst
   have g2 : w3.cell? ⟨pl + 1 + 1 + 1 + 1, 2, none⟩ = some (.slice Av cs.length cv) := (blk_cell hst.blk 2).trans rfl
   have g3 : w3.cell? ⟨pl + 1 + 1 + 1 + 1, 3, none⟩ = some (.slice Af fs.length cf) := (blk_cell hst.blk 3).trans rfl
   clear hst HST
   go_wp2
   refine start_ (n := 12) (S := fun u => u.cell? ⟨pl + 1 + 1 + 1 + 1, 2, none⟩ = some (.slice Av cs.length cv) ∧ u.cell? ⟨pl + 1 + 1 + 1 + 1, 3, none⟩ = some (.slice Af fs.length cf)) (ds := [11]) (bm 12 0) (by kernel_rfl) rfl rfl ?_ (fun hHeld => ?_)
   case refine_1 => exact ⟨by go_simp, by go_simp⟩
   refine pure_ (i := 0) (N := some 98) (v := ?_) (a' := ?_) (bm 12 1) rfl rfl (by kernel_rfl) (fun _ _ _ h => panic_put (by decide) (by decide) (by decide) h) (Or.inl ⟨by rfl, ?_⟩) ?_ ?_
   rotate_left
   ·
    intro u
    go_simp
    with_reducible rfl
   rotate_left
   ·
    simp only [pz]
    rfl
   refine pure_ (i := 1) (N := some 99) (v := ?_) (a' := ?_) (bm 12 3) rfl rfl (by kernel_rfl) (fun _ _ _ h => panic_put (by decide) (by decide) (by decide) h) (Or.inl ⟨by rfl, ?_⟩) ?_ ?_
   rotate_left
   ·
    intro u
    go_simp
    with_reducible rfl
   rotate_left
   ·
    simp only [pz]
    rfl
   refine pure_ (i := 2) (N := some 100) (v := ?_) (a' := ?_) (bm 12 7) rfl rfl (by kernel_rfl) (fun _ _ _ h => panic_put (by decide) (by decide) (by decide) h) (Or.inl ⟨by rfl, ?_⟩) ?_ ?_
   rotate_left
   ·
    intro u
    go_simp
    with_reducible rfl
   rotate_left
   ·
    simp only [pz]
    rfl
   refine pure_ (i := 3) (N := some 101) (v := ?_) (a' := ?_) (bm 12 15) rfl rfl (by kernel_rfl) (fun _ _ _ h => panic_put (by decide) (by decide) (by decide) h) (Or.inl ⟨by rfl, ?_⟩) ?_ ?_
   rotate_left
   ·
    intro u
    go_simp
    with_reducible rfl
   rotate_left
   ·
    simp only [pz]
    rfl
   refine take_ (i := 4) (N := some 102) (v := ?_) (a' := ?_) (bm 12 31) rfl rfl (by kernel_rfl) (fun _ _ _ h => panic_put (by decide) (by decide) (by decide) h) (Or.inl ⟨by rfl, ?_⟩) hHeld ?_ ?_
   rotate_left
   ·
    rintro u ⟨s0, s1⟩
    go_simp
    with_reducible rfl
   rotate_left
   ·
    simp only [pz]
    rfl
   refine pure_ (i := 5) (N := some 103) (v := ?_) (a' := ?_) (bm 12 63) rfl rfl (by kernel_rfl) (fun _ _ _ h => panic_put (by decide) (by decide) (by decide) h) (Or.inl ⟨by rfl, ?_⟩) ?_ ?_
   rotate_left
   ·
    intro u
    go_simp
    with_reducible rfl
   rotate_left
   ·
    simp only [pz]
    rfl
   refine pure_ (i := 6) (N := some 104) (v := ?_) (a' := ?_) (bm 12 127) rfl rfl (by kernel_rfl) (fun _ _ _ h => panic_put (by decide) (by decide) (by decide) h) (Or.inl ⟨by rfl, ?_⟩) ?_ ?_
   rotate_left
   ·
    intro u
    go_simp
    with_reducible rfl
   rotate_left
   ·
    simp only [pz]
    rfl
   refine pure_ (i := 7) (N := some 105) (v := ?_) (a' := ?_) (bm 12 255) rfl rfl (by kernel_rfl) (fun _ _ _ h => panic_put (by decide) (by decide) (by decide) h) (Or.inl ⟨by rfl, ?_⟩) ?_ ?_
   rotate_left
   ·
    intro u
    go_simp
    with_reducible rfl
   rotate_left
   ·
    simp only [pz]
    rfl
   refine take_ (i := 8) (N := some 106) (v := ?_) (a' := ?_) (bm 12 511) rfl rfl (by kernel_rfl) (fun _ _ _ h => panic_put (by decide) (by decide) (by decide) h) (Or.inl ⟨by rfl, ?_⟩) hHeld ?_ ?_
   rotate_left
   ·
    rintro u ⟨s0, s1⟩
    go_simp
    with_reducible rfl
   rotate_left
   ·
    simp only [pz]
    rfl
   refine one_ (i := 9) (N := some 107) (bm 12 1023) rfl rfl (by kernel_rfl) (by decide) (fun K hK => ?_)
   refine goes_ Try.func12 (by kernel_rfl) rfl #[.slice Av cs.length cv, .slice Af fs.length cf] (by rfl) rfl rfl (by (try simp only [ml]); first | done | rfl) ?_
   refine (ehframe_Check.calls 0 Av cv cs Af cf fs 0 _ (Kd.S_reads' HST2.out.drew.hc).2.2 (Kd.S_reads' HST2.out.drew.hc).2.1 (Kd.S_reads' HST2.out.drew.hf).2.2 (Kd.S_reads' HST2.out.drew.hf).2.1 HFC.out).mono ?_
   rintro e wx ⟨rfl, hb⟩
   refine ⟨_, rfl, ?_⟩
   have HST3 := am (HST2.out.drew.below hb)
   have g4 : wx.cell? ⟨pl + 1 + 1 + 1 + 1, 2, none⟩ = some (.slice Av cs.length cv) := (blk_cell HST3.out.blk 2).trans rfl
   have g5 : wx.cell? ⟨pl + 1 + 1 + 1 + 1, 3, none⟩ = some (.slice Af fs.length cf) := (blk_cell HST3.out.blk 3).trans rfl
   clear hb hHeld g2 g3
   refine hK.out _ _ ⟨g4, g5⟩ (fun hHeld => ?_)
   clear hK K
   refine norm_ (a' := ?_) ?_ ?_
   rotate_left
   ·
    show Act.put _ (some 107) _ = _
    simp only [pz]
    rfl
   refine pure_ (i := 10) (N := some 108) (v := ?_) (a' := ?_) (bm 12 2047) rfl rfl (by kernel_rfl) (fun _ _ _ h => panic_put (by decide) (by decide) (by decide) h) (Or.inl ⟨by rfl, ?_⟩) ?_ ?_
   rotate_left
   ·
    intro u
    go_simp
    with_reducible rfl
   rotate_left
   ·
    simp only [pz]
    rfl
   refine last_ (i := 11) (N := some 109) (bm 12 4095) rfl rfl (by kernel_rfl) (by decide) (fun K hK => ?_)
   refine goes_ Try.func55 (by kernel_rfl) rfl #[.pointer (some ⟨pl + 1 + 1 + 1 + 1, 0, none⟩), .bool false] (by rfl) rfl rfl (by (try simp only [ml]); first | done | rfl) ?_
   refine (fail_no _ _).mono ?_
   rintro e wy ⟨rfl, hwy⟩
   subst hwy
   refine ⟨_, rfl, ?_⟩
   clear hHeld
   refine hK.out _ _ ?_
   clear hK K
   refine done_ (by kernel_rfl) ?_
   go_wp2
   have hp0 : wy.drew.heap[pl]? = some (.cells #[.slice none 0 0] 24 (0, 0)) := blk_drew (below_at HST3.out.hb HP0.out (by have := HS0.out; omega))
   have hp1 : wy.drew.heap[pl + 1]? = some (.cells #[.slice none 0 0] 25 (0, 0)) := blk_drew (below_at HST3.out.hb HP1.out (by have := HS0.out; omega))
   have hp2 : wy.drew.heap[pl + 1 + 1]? = some (.cells #[.int .i64 0] 30 (0, 0)) := blk_drew (below_at HST3.out.hb HP2.out (by have := HS0.out; omega))
   obtain ⟨x0, x1, x2, x3, x4, x5, x6, x7, x8, x9, x10, x11, x12⟩ := final_ hp0 hp1 hp2 (.slice Av cs.length cv) (.slice Af fs.length cf) HST3.out.drew.blk (by omega)
   have HX10 := am x10
   have HX11 := am x11
   have HX12 := am x12
   have HSTD := am HST3.out.drew
   clear hp0 hp1 hp2 x10 x11 x12
   refine start_ (n := 11) (S := fun u => u.cell? ⟨pl + 1 + 1 + 1 + 1, 2, none⟩ = some (.slice Av cs.length cv) ∧ u.cell? ⟨pl + 1 + 1 + 1 + 1, 3, none⟩ = some (.slice Af fs.length cf)) (ds := [10]) (bm 11 0) (by kernel_rfl) rfl rfl ?_ (fun hHeld => ?_)
   case refine_1 => exact ⟨by go_simp, by go_simp⟩
   refine pure_ (i := 0) (N := some 110) (v := ?_) (a' := ?_) (bm 11 1) rfl rfl (by kernel_rfl) (fun _ _ _ h => panic_put (by decide) (by decide) (by decide) h) (Or.inl ⟨by rfl, ?_⟩) ?_ ?_
   rotate_left
   ·
    intro u
    go_simp
    with_reducible rfl
   rotate_left
   ·
    simp only [pz]
    rfl
   refine pure_ (i := 1) (N := some 111) (v := ?_) (a' := ?_) (bm 11 3) rfl rfl (by kernel_rfl) (fun _ _ _ h => panic_put (by decide) (by decide) (by decide) h) (Or.inl ⟨by rfl, ?_⟩) ?_ ?_
   rotate_left
   ·
    intro u
    go_simp
    with_reducible rfl
   rotate_left
   ·
    simp only [pz]
    rfl
   refine pure_ (i := 2) (N := some 112) (v := ?_) (a' := ?_) (bm 11 7) rfl rfl (by kernel_rfl) (fun _ _ _ h => panic_put (by decide) (by decide) (by decide) h) (Or.inl ⟨by rfl, ?_⟩) ?_ ?_
   rotate_left
   ·
    intro u
    go_simp
    with_reducible rfl
   rotate_left
   ·
    simp only [pz]
    rfl
   refine take_ (i := 3) (N := some 113) (v := ?_) (a' := ?_) (bm 11 15) rfl rfl (by kernel_rfl) (fun _ _ _ h => panic_put (by decide) (by decide) (by decide) h) (Or.inl ⟨by rfl, ?_⟩) hHeld ?_ ?_
   rotate_left
   ·
    rintro u ⟨s0, s1⟩
    go_simp
    with_reducible rfl
   rotate_left
   ·
    simp only [pz]
    rfl
   refine pure_ (i := 4) (N := some 114) (v := ?_) (a' := ?_) (bm 11 31) rfl rfl (by kernel_rfl) (fun _ _ _ h => panic_put (by decide) (by decide) (by decide) h) (Or.inl ⟨by rfl, ?_⟩) ?_ ?_
   rotate_left
   ·
    intro u
    go_simp
    with_reducible rfl
   rotate_left
   ·
    simp only [pz]
    rfl
   refine pure_ (i := 5) (N := some 115) (v := ?_) (a' := ?_) (bm 11 63) rfl rfl (by kernel_rfl) (fun _ _ _ h => panic_put (by decide) (by decide) (by decide) h) (Or.inl ⟨by rfl, ?_⟩) ?_ ?_
   rotate_left
   ·
    intro u
    go_simp
    with_reducible rfl
   rotate_left
   ·
    simp only [pz]
    rfl
   refine pure_ (i := 6) (N := some 116) (v := ?_) (a' := ?_) (bm 11 127) rfl rfl (by kernel_rfl) (fun _ _ _ h => panic_put (by decide) (by decide) (by decide) h) (Or.inl ⟨by rfl, ?_⟩) ?_ ?_
   rotate_left
   ·
    intro u
    go_simp
    with_reducible rfl
   rotate_left
   ·
    simp only [pz]
    rfl
   refine take_ (i := 7) (N := some 117) (v := ?_) (a' := ?_) (bm 11 255) rfl rfl (by kernel_rfl) (fun _ _ _ h => panic_put (by decide) (by decide) (by decide) h) (Or.inl ⟨by rfl, ?_⟩) hHeld ?_ ?_
   rotate_left
   ·
    rintro u ⟨s0, s1⟩
    go_simp
    with_reducible rfl
   rotate_left
   ·
    simp only [pz]
    rfl
   refine one_ (i := 8) (N := none) (bm 11 511) rfl rfl (by kernel_rfl) (by decide) (fun K hK => ?_)
   generalize wy.drew = wz at HSTD x0 x1 x2 x3 x4 x5 x6 x7 x8 x9 HX10 HX11 HX12 hHeld hK ⊢
   rw [if_pos (by rfl)]
   go_simp
   refine hK.out _ _ x6 (fun hHeld => ?_)
   clear hK K
   refine one_ (i := 9) (N := none) (bm 11 1023) rfl rfl (by kernel_rfl) (by decide) (fun K hK => ?_)
   rw [if_pos (by rfl)]
   go_simp
   refine hK.out _ _ x7 (fun hHeld => ?_)
   clear hK K
   refine last_ (i := 10) (N := none) (bm 11 2047) rfl rfl (by kernel_rfl) (by decide) (fun K hK => ?_)
   rw [if_pos (by rfl)]
   go_simp
   refine hK.out _ _ ?_
   clear hK K
   refine done_ (by kernel_rfl) ?_
   go_wp2
   refine leaves_cons (f := 54) (args := #[.pointer (some ⟨pl, 0, none⟩), .pointer (some ⟨pl + 1, 0, none⟩), .pointer (some ⟨pl + 1 + 1, 0, none⟩)]) (by simp) (by simp [go_sem]) ?_
   refine (read_idle _ _ _ _).mono ?_
   rintro e u' w6 ⟨rfl, rfl, rfl⟩
   refine ⟨.tuple #[.slice Av cs.length cv, .slice Af fs.length cf, .int .i64 0], results3c (p := 4) (q := 5) (r := 6) rfl _ _ _ ⟨pl, 0, none⟩ ⟨pl + 1, 0, none⟩ ⟨pl + 1 + 1, 0, none⟩ (.slice Av cs.length cv) (.slice Af fs.length cf) (.int .i64 0) rfl rfl rfl Try.underlying24 Try.underlying25 Try.underlying30 ((blk_cell HX10.out 0).trans rfl) ((blk_cell HX11.out 0).trans rfl) ((blk_cell HX12.out 0).trans rfl), .slice Av cs.length cv, .slice Af fs.length cf, rfl, ?_⟩
   exact ended_ HSTD.out HS0.out HPL.out HB0.out
end Go.Proofs.Ytfgfnflhdabmcaa.EhRd
end
section
namespace Go.Proofs.Ytfgfnflhdabmcaa.G
open Go.RowKit Go.Proofs.YtfgfnflhdabmcaaW.PrintWords Go.Proofs.YtfgfnflhdabmcaaW.PrintLast Go.Proofs.YtfgfnflhdabmcaaW.PrintMore
attribute [local go_sem] max2_int min2_int max_two min_two max_three min_three max_four min_four
def ehframe_Read.f (l0 : List Int) (a1 : Int) : Option (List S69 × List S46 × Int) := EhRd.readF l0 a1
theorem ehframe_Read.calls (A0 : Option Addr) (c0 : Nat) (l0 : List Int) (a1 : Int) (r1 : List S69) (r2 : List S46) (r3 : Int) (w : World) (hr0 : Kd.C (Kd.int .u8) w A0 l0.length l0) (hc0 : l0.length ≤ c0) (h : ehframe_Read.f l0 a1 = some (r1, r2, r3)) :
  Calls Try.prog 21 #[.slice A0 l0.length c0, .int .i64 a1] w fun e w' => ∃ v0_ v1_ : Value, e = .returned (.tuple #[v0_, v1_, .int .i64 r3]) ∧ Kd.S k69 69 w' w.heap.size (fun _ => True) v0_ r1 ∧ Kd.S k46 46 w' w.heap.size (fun _ => True) v1_ r2 ∧ Below w.heap.size w w' := EhRd.read_calls A0 c0 l0 a1 r1 r2 r3 w hr0 hc0 h
mutual
def gangwaylaw14_EhframeBack.j0 : Nat → List (S43) → List (S61) → Int → Bool → Option (Bool)
  | 0, _, _, _, _ => none
  | k + 1, x0, x1, x2, x3 => (gangwaylaw14_tables.f k x0 x1).bind fun bt123 => ((ehframe_Write.f k bt123.1 bt123.2 x2 x3).bind fun bt129 => ((gangwaylaw14_num.f bt129.2.2).bind fun t136 => (if t136 = 0 then (gangwaylaw14_EhframeBack.l0 k x0 x1 x2 bt129.1 ([] : List (S61)) ([] : List (S43)) 0) else (if (bt129.1.length : Int) = 0 then ((gangwaylaw14_live.f k).bind fun t137 => (some t137)) else (none)))))
def gangwaylaw14_EhframeBack.l0 : Nat → List (S43) → List (S61) → Int → List Int → List (S61) → List (S43) → Int → Option (Bool)
  | 0, _, _, _, _, _, _, _ => none
  | k + 1, x0, x1, x2, x23, x26, x27, x28 => if x28 < (x0.length : Int) then (if 0 ≤ x28 then ((gangwaylaw14_trimmed.f k ((rd_T43 x0 x28).f1)).bind fun t140 => (if x27.length < 4398046511104 then (gangwaylaw14_EhframeBack.l1 k x0 x1 x2 x23 x26 (x27 ++ [(⟨(rd_T43 x0 x28).f0, t140⟩ : S43)]) x28 0) else (none))) else (none)) else ((ehframe_Read.f x23 x2).bind fun bt155 => ((gangwaylaw14_num.f bt155.2.2).bind fun t162 => (if t162 = 0 then ((gangwaylaw14_same.f k bt155.1 bt155.2.1 x27 x26).bind fun t163 => (if t163 = true then ((gangwaylaw14_live.f k).bind fun t164 => (some t164)) else (none))) else (none))))
def gangwaylaw14_EhframeBack.l1 : Nat → List (S43) → List (S61) → Int → List Int → List (S61) → List (S43) → Int → Int → Option (Bool)
  | 0, _, _, _, _, _, _, _, _ => none
  | k + 1, x0, x1, x2, x23, x26, x27, x28, x29 => if x29 < (x1.length : Int) then (if 0 ≤ x29 then (if ((rd_T61 x1 x29).f0) = x28 then ((gangwaylaw14_trimmed.f k ((rd_T61 x1 x29).f3)).bind fun t149 => (if x26.length < 2932031007402 then (gangwaylaw14_EhframeBack.l1 k x0 x1 x2 x23 (x26 ++ [(⟨(rd_T61 x1 x29).f0, (rd_T61 x1 x29).f1, (rd_T61 x1 x29).f2, t149⟩ : S61)]) x27 x28 (wrap64 (x29 + 1))) else (none))) else (gangwaylaw14_EhframeBack.l1 k x0 x1 x2 x23 x26 x27 x28 (wrap64 (x29 + 1)))) else (none)) else (gangwaylaw14_EhframeBack.l0 k x0 x1 x2 x23 x26 x27 (wrap64 (x28 + 1)))
end
def gangwaylaw14_EhframeBack.f (k : Nat) (l0 : List (S43)) (l1 : List (S61)) (a2 : Int) (a3 : Bool) (a4_0 : Int) (a4_1 : Int) (a4_2 : Int) (a4_3 : Int) (l5 : List Int) (l6 : List Int) : Option (Bool) := (ehframe_Put.f k a4_0 a4_1 a4_2 a4_3).bind fun bt102 => ((gangwaylaw14_num.f bt102.2).bind fun t106 => (if t106 = 0 then ((some (([] : List Int) : List Int)).bind fun y107 => (if y107.length + l5.length < 140737488355328 then ((some (y107 ++ l5 : List Int)).bind fun y110 => (if y110.length + bt102.1.length < 140737488355328 then ((some (y110 ++ bt102.1 : List Int)).bind fun y113 => (if y113.length + l6.length < 140737488355328 then ((ehframe_Get.f k (y113 ++ l6) (l5.length : Int) a4_0 (wrap64 (a4_2 - (l5.length : Int))) a4_3).bind fun bt119 => (if (wrap64 (a4_2 - (l5.length : Int))) ≥ (-1152921504606846976) then ((gangwaylaw14_num.f bt119.2.2).bind fun t122 => (if t122 = 0 then (if bt119.1 = a4_1 then (if bt119.2.1 = (wrap64 ((l5.length : Int) + (bt102.1.length : Int))) then (gangwaylaw14_EhframeBack.j0 k l0 l1 a2 a3) else (none)) else (none)) else (none))) else (gangwaylaw14_EhframeBack.j0 k l0 l1 a2 a3))) else (none))) else (none))) else (none))) else (gangwaylaw14_EhframeBack.j0 k l0 l1 a2 a3)))
def gangwaylaw14_EhframeBack.T16 : Bool × List (List Nat × List Nat) := (true, [([], []), ([], []), ([], []), ([1, 2], [1, 2]), ([3], [3]), ([4], [4]), ([], []), ([], []), ([6, 7], [6, 7]), ([8], [8]), ([9], [9]), ([10], [10]), ([5, 11], [5, 11]), ([12], [12]), ([0, 13, 11], [0, 13]), ([14, 14, 0, 1, 2, 3, 4, 5, 6, 7, 8, 9, 10, 11, 12, 13, 14], [0, 14])])
def gangwaylaw14_EhframeBack.B16 : List Nat := [0, 0, 0, 6, 14, 30, 0, 0, 192, 448, 960, 1984, 4094, 8190, 16383, 32767]
theorem gangwaylaw14_EhframeBack.tab16 : rtab .any (opsOf Try.f6 16) = gangwaylaw14_EhframeBack.T16 := by kernel_rfl
theorem gangwaylaw14_EhframeBack.bits16 : waitsOk gangwaylaw14_EhframeBack.T16.2 gangwaylaw14_EhframeBack.B16 = true := by kernel_rfl
set_option maxHeartbeats 8000000 in
theorem gangwaylaw14_EhframeBack.calls (k : Nat) (A0 : Option Addr) (c0 : Nat) (l0 : List (S43)) (A1 : Option Addr) (c1 : Nat) (l1 : List (S61)) (a2 : Int) (a3 : Bool) (a4_0 : Int) (a4_1 : Int) (a4_2 : Int) (a4_3 : Int) (A5 : Option Addr) (c5 : Nat) (l5 : List Int) (A6 : Option Addr) (c6 : Nat) (l6 : List Int) (r : Bool) (w : World) (hr0 : Kd.C k43 w A0 l0.length l0) (hc0 : l0.length ≤ c0) (hr1 : Kd.C k61 w A1 l1.length l1) (hc1 : l1.length ≤ c1) (hr5 : Kd.C (Kd.int .u8) w A5 l5.length l5) (hc5 : l5.length ≤ c5) (hr6 : Kd.C (Kd.int .u8) w A6 l6.length l6) (hc6 : l6.length ≤ c6) (h : gangwaylaw14_EhframeBack.f k l0 l1 a2 a3 a4_0 a4_1 a4_2 a4_3 l5 l6 = some r) :
    Calls Try.prog 6 #[.slice A0 l0.length c0, .slice A1 l1.length c1, .int .i64 a2, .bool a3, .agg #[.int .i64 a4_0, .int .i64 a4_1, .int .i64 a4_2, .int .i64 a4_3], .slice A5 l5.length c5, .slice A6 l6.length c6] w fun e w' => e = .returned (.bool r) ∧ Below w.heap.size w w' := by
 have hu49 := Try.underlying49
 have hu43 := Try.underlying43
 have hu61 := Try.underlying61
 have HR0 := am hr0
 have HC0 := am hc0
 clear hr0 hc0
 have HR1 := am hr1
 have HC1 := am hc1
 clear hr1 hc1
 have HR5 := am hr5
 have HC5 := am hc5
 clear hr5 hc5
 have HR6 := am hr6
 have HC6 := am hc6
 clear hr6 hc6
 have HB := am (Below.refl w.heap.size w)
 have H : ((ehframe_Put.f k a4_0 a4_1 a4_2 a4_3).bind fun bt102 => ((gangwaylaw14_num.f bt102.2).bind fun t106 => (if t106 = 0 then ((some (([] : List Int) : List Int)).bind fun y107 => (if y107.length + l5.length < 140737488355328 then ((some (y107 ++ l5 : List Int)).bind fun y110 => (if y110.length + bt102.1.length < 140737488355328 then ((some (y110 ++ bt102.1 : List Int)).bind fun y113 => (if y113.length + l6.length < 140737488355328 then ((ehframe_Get.f k (y113 ++ l6) (l5.length : Int) a4_0 (wrap64 (a4_2 - (l5.length : Int))) a4_3).bind fun bt119 => (if (wrap64 (a4_2 - (l5.length : Int))) ≥ (-1152921504606846976) then ((gangwaylaw14_num.f bt119.2.2).bind fun t122 => (if t122 = 0 then (if bt119.1 = a4_1 then (if bt119.2.1 = (wrap64 ((l5.length : Int) + (bt102.1.length : Int))) then (gangwaylaw14_EhframeBack.j0 k l0 l1 a2 a3) else (none)) else (none)) else (none))) else (gangwaylaw14_EhframeBack.j0 k l0 l1 a2 a3))) else (none))) else (none))) else (none))) else (gangwaylaw14_EhframeBack.j0 k l0 l1 a2 a3)))) = some r := h
 clear h
 replace H := Option.bind_eq_some_iff.mp H
 obtain ⟨⟨t102, t103⟩, A80, H⟩ := H
 replace H : ((gangwaylaw14_num.f t103).bind fun t106 => (if t106 = 0 then ((some (([] : List Int) : List Int)).bind fun y107 => (if y107.length + l5.length < 140737488355328 then ((some (y107 ++ l5 : List Int)).bind fun y110 => (if y110.length + t102.length < 140737488355328 then ((some (y110 ++ t102 : List Int)).bind fun y113 => (if y113.length + l6.length < 140737488355328 then ((ehframe_Get.f k (y113 ++ l6) (l5.length : Int) a4_0 (wrap64 (a4_2 - (l5.length : Int))) a4_3).bind fun bt119 => (if (wrap64 (a4_2 - (l5.length : Int))) ≥ (-1152921504606846976) then ((gangwaylaw14_num.f bt119.2.2).bind fun t122 => (if t122 = 0 then (if bt119.1 = a4_1 then (if bt119.2.1 = (wrap64 ((l5.length : Int) + (t102.length : Int))) then (gangwaylaw14_EhframeBack.j0 k l0 l1 a2 a3) else (none)) else (none)) else (none))) else (gangwaylaw14_EhframeBack.j0 k l0 l1 a2 a3))) else (none))) else (none))) else (none))) else (gangwaylaw14_EhframeBack.j0 k l0 l1 a2 a3))) = some r := H
 have A8 := am A80
 clear A80
 replace H := Option.bind_eq_some_iff.mp H
 obtain ⟨t106, A90, H⟩ := H
 replace H : (if t106 = 0 then ((some (([] : List Int) : List Int)).bind fun y107 => (if y107.length + l5.length < 140737488355328 then ((some (y107 ++ l5 : List Int)).bind fun y110 => (if y110.length + t102.length < 140737488355328 then ((some (y110 ++ t102 : List Int)).bind fun y113 => (if y113.length + l6.length < 140737488355328 then ((ehframe_Get.f k (y113 ++ l6) (l5.length : Int) a4_0 (wrap64 (a4_2 - (l5.length : Int))) a4_3).bind fun bt119 => (if (wrap64 (a4_2 - (l5.length : Int))) ≥ (-1152921504606846976) then ((gangwaylaw14_num.f bt119.2.2).bind fun t122 => (if t122 = 0 then (if bt119.1 = a4_1 then (if bt119.2.1 = (wrap64 ((l5.length : Int) + (t102.length : Int))) then (gangwaylaw14_EhframeBack.j0 k l0 l1 a2 a3) else (none)) else (none)) else (none))) else (gangwaylaw14_EhframeBack.j0 k l0 l1 a2 a3))) else (none))) else (none))) else (none))) else (gangwaylaw14_EhframeBack.j0 k l0 l1 a2 a3)) = some r := H
 have A9 := am A90
 clear A90
 have HC10 := am H
 clear H
 go_enter Try.func6, Try.ntmps6
 go_upto_if 48 with (first | ((with_reducible refine gate_dst (N := 11) rfl ?_); (try (refine gate_guard (by rfl) ?_; dsimp only)); refine box_event ?hg (N := 11) ?hd (cs := #[.int .i64 a4_0, .int .i64 a4_1, .int .i64 a4_2, .int .i64 a4_3]) (t := 49) ?hr ?_; (case hd => rfl); (case hg => rfl); (case hr => go_simp; try rfl); intro gb101 hg w11 hbox hb; refine mv3 (am (below_step (by exact bl_o HB.out) hb)) (am (hbox)) (lei (by rw [hg]; exact (below_size (by exact bl_o HB.out)) : w.heap.size ≤ gb101)) ?_; clear HB; intro HB BK101 GW101; have GE101 := GW101; clear hb hbox hg; obtain ⟨hcz12_0, hcz12_1, hcz12_2, hcz12_3, hfz12_0, hfz12_1, hfz12_2, hfz12_3⟩ := cells4 BK101.out) | ((with_reducible refine gate_callee (f := 16) rfl ?_); refine goesL_ (some 43) rfl rfl Try.func16 (by kernel_rfl) rfl #[.int .i64 a4_0, .int .i64 a4_1, .int .i64 a4_2, .int .i64 a4_3] rfl (by simp only [ml]; try rfl) ?_; (with_reducible refine (ehframe_Put.calls k a4_0 a4_1 a4_2 a4_3 t102 t103 _ A8.out).mono ?_); rintro e w13 ⟨v104, rfl, ho0, hb⟩; refine ⟨_, rfl, ?_⟩; refine mv3 (am (Kd.R_lower ho0 (below_size (by exact bl_g HB.out)))) (am (blk_below (blk_o BK101.out) hb)) (am (below_step (by exact bl_g HB.out) hb)) ?_; clear BK101 HB; intro HO105 BK101 HB) | ((with_reducible refine gate_callee (f := 11) rfl ?_); refine goesL_ (some 47) rfl rfl Try.func11 (by kernel_rfl) rfl #[.int .i64 t103] rfl (by simp only [ml]; try rfl) ?_; (with_reducible refine (gangwaylaw14_num.calls t103 t106 _ A9.out).mono ?_); rintro e w' ⟨rfl, ⟨nd, rfl⟩⟩; refine ⟨_, rfl, ?_⟩))
 (try simp only [Act.put, List.setIfInBounds_toArray, List.set_cons_zero, List.set_cons_succ])
 go_cut [] (fun wc => ∃ (kq : Nat), Aside0 (gangwaylaw14_EhframeBack.j0 kq l0 l1 a2 a3 = some r) ∧ Aside0 (kq ≤ k) ∧ Aside0 (wc.heap[gb101]? = some (.cells #[.int .i64 a4_0, .int .i64 a4_1, .int .i64 a4_2, .int .i64 a4_3] 49 (0, 0))) ∧ Aside0 (Below w.heap.size w wc))
 case first =>
  have H := HC10.out
  clear HC10
  by_cases c14 : t106 = 0
  rotate_left
  ·
   rw [if_neg c14] at H
   have c14b0 : (t106 == 0) = false := beq_eq_false_iff_ne.mpr c14
   have c14b1 : (t106 != 0) = true := bne_iff_ne.mpr c14
   (first | rw [c14b0] | (simp only [i64_w, i32_w]; rw [c14b0]) | skip)
   have H' := am H
   clear H
   go_wp2
   go_meet
   case rel => exact ⟨_, H', ⟨by first | omega | exact Nat.le_refl _⟩, ⟨by (with_reducible repeat (first | refine blk_drewN ?_ _ | refine blk_drew ?_ | refine blk_alloc ?_ _)); exact BK101.out⟩, ⟨by exact bl_g HB.out⟩⟩
  rw [if_pos c14] at H
  have c14b0 : (t106 == 0) = true := beq_iff_eq.mpr c14
  have c14b1 : (t106 != 0) = false := bne_eq_false_iff_eq.mpr c14
  clear c14
  (first | rw [c14b0] | (simp only [i64_w, i32_w]; rw [c14b0]) | skip)
  obtain ⟨y107, hy107⟩ : ∃ y_ : List Int, y_ = (([] : List Int)) := ⟨_, rfl⟩
  replace H : (if y107.length + l5.length < 140737488355328 then ((some (y107 ++ l5 : List Int)).bind fun y110 => (if y110.length + t102.length < 140737488355328 then ((some (y110 ++ t102 : List Int)).bind fun y113 => (if y113.length + l6.length < 140737488355328 then ((ehframe_Get.f k (y113 ++ l6) (l5.length : Int) a4_0 (wrap64 (a4_2 - (l5.length : Int))) a4_3).bind fun bt119 => (if (wrap64 (a4_2 - (l5.length : Int))) ≥ (-1152921504606846976) then ((gangwaylaw14_num.f bt119.2.2).bind fun t122 => (if t122 = 0 then (if bt119.1 = a4_1 then (if bt119.2.1 = (wrap64 ((l5.length : Int) + (t102.length : Int))) then (gangwaylaw14_EhframeBack.j0 k l0 l1 a2 a3) else (none)) else (none)) else (none))) else (gangwaylaw14_EhframeBack.j0 k l0 l1 a2 a3))) else (none))) else (none))) else (none)) = some r := by first | (rw [hy107]; with_reducible exact H) | (have H2_ := (Option.bind_some _ _).symm.trans H; rw [hy107]; with_reducible exact H2_)
  have Ny107 := am hy107
  clear hy107
  by_cases c15 : y107.length + l5.length < 140737488355328
  rotate_left
  ·
   rw [if_neg c15] at H
   exact absurd H (by simp)
  rw [if_pos c15] at H
  have LMc15 := am c15
  clear c15
  obtain ⟨y110, hy110⟩ : ∃ y_ : List Int, y_ = (y107 ++ l5) := ⟨_, rfl⟩
  replace H : (if y110.length + t102.length < 140737488355328 then ((some (y110 ++ t102 : List Int)).bind fun y113 => (if y113.length + l6.length < 140737488355328 then ((ehframe_Get.f k (y113 ++ l6) (l5.length : Int) a4_0 (wrap64 (a4_2 - (l5.length : Int))) a4_3).bind fun bt119 => (if (wrap64 (a4_2 - (l5.length : Int))) ≥ (-1152921504606846976) then ((gangwaylaw14_num.f bt119.2.2).bind fun t122 => (if t122 = 0 then (if bt119.1 = a4_1 then (if bt119.2.1 = (wrap64 ((l5.length : Int) + (t102.length : Int))) then (gangwaylaw14_EhframeBack.j0 k l0 l1 a2 a3) else (none)) else (none)) else (none))) else (gangwaylaw14_EhframeBack.j0 k l0 l1 a2 a3))) else (none))) else (none)) = some r := by first | (rw [hy110]; with_reducible exact H) | (have H2_ := (Option.bind_some _ _).symm.trans H; rw [hy110]; with_reducible exact H2_)
  have Ny110 := am hy110
  clear hy110
  by_cases c16 : y110.length + t102.length < 140737488355328
  rotate_left
  ·
   rw [if_neg c16] at H
   exact absurd H (by simp)
  rw [if_pos c16] at H
  have LMc16 := am c16
  clear c16
  obtain ⟨y113, hy113⟩ : ∃ y_ : List Int, y_ = (y110 ++ t102) := ⟨_, rfl⟩
  replace H : (if y113.length + l6.length < 140737488355328 then ((ehframe_Get.f k (y113 ++ l6) (l5.length : Int) a4_0 (wrap64 (a4_2 - (l5.length : Int))) a4_3).bind fun bt119 => (if (wrap64 (a4_2 - (l5.length : Int))) ≥ (-1152921504606846976) then ((gangwaylaw14_num.f bt119.2.2).bind fun t122 => (if t122 = 0 then (if bt119.1 = a4_1 then (if bt119.2.1 = (wrap64 ((l5.length : Int) + (t102.length : Int))) then (gangwaylaw14_EhframeBack.j0 k l0 l1 a2 a3) else (none)) else (none)) else (none))) else (gangwaylaw14_EhframeBack.j0 k l0 l1 a2 a3))) else (none)) = some r := by first | (rw [hy113]; with_reducible exact H) | (have H2_ := (Option.bind_some _ _).symm.trans H; rw [hy113]; with_reducible exact H2_)
  have Ny113 := am hy113
  clear hy113
  by_cases c17 : y113.length + l6.length < 140737488355328
  rotate_left
  ·
   rw [if_neg c17] at H
   exact absurd H (by simp)
  rw [if_pos c17] at H
  have LMc17 := am c17
  clear c17
  obtain ⟨y116, hy116⟩ : ∃ y_ : List Int, y_ = (y113 ++ l6) := ⟨_, rfl⟩
  replace H : ((ehframe_Get.f k y116 (l5.length : Int) a4_0 (wrap64 (a4_2 - (l5.length : Int))) a4_3).bind fun bt119 => (if (wrap64 (a4_2 - (l5.length : Int))) ≥ (-1152921504606846976) then ((gangwaylaw14_num.f bt119.2.2).bind fun t122 => (if t122 = 0 then (if bt119.1 = a4_1 then (if bt119.2.1 = (wrap64 ((l5.length : Int) + (t102.length : Int))) then (gangwaylaw14_EhframeBack.j0 k l0 l1 a2 a3) else (none)) else (none)) else (none))) else (gangwaylaw14_EhframeBack.j0 k l0 l1 a2 a3))) = some r := by first | (rw [hy116]; with_reducible exact H) | (have H2_ := (Option.bind_some _ _).symm.trans H; rw [hy116]; with_reducible exact H2_)
  have Ny116 := am hy116
  clear hy116
  replace H := Option.bind_eq_some_iff.mp H
  obtain ⟨⟨t119, t120, t121⟩, A180, H⟩ := H
  replace H : (if (wrap64 (a4_2 - (l5.length : Int))) ≥ (-1152921504606846976) then ((gangwaylaw14_num.f t121).bind fun t122 => (if t122 = 0 then (if t119 = a4_1 then (if t120 = (wrap64 ((l5.length : Int) + (t102.length : Int))) then (gangwaylaw14_EhframeBack.j0 k l0 l1 a2 a3) else (none)) else (none)) else (none))) else (gangwaylaw14_EhframeBack.j0 k l0 l1 a2 a3)) = some r := H
  have A18 := am A180
  clear A180
  by_cases c19 : (wrap64 (a4_2 - (l5.length : Int))) ≥ (-1152921504606846976)
  rotate_left
  ·
   rw [if_neg c19] at H
   have c19b0 : decide ((-1152921504606846976) ≤ (wrap64 (a4_2 - (l5.length : Int)))) = false := decide_eq_false c19
   clear c19
   have H' := am H
   clear H
   go_wp2_with (first | ((with_reducible refine gate_dst (N := 49) rfl ?_); (try (refine gate_guard (by rfl) ?_; dsimp only)); refine Kd.R_lit (Kd.int .u8) _ 5 ?hg (N := 49) ?hd (xs := ([] : List Int)) (inner := []) (ok := fun _ => True) (okp := fun _ => True) ?hr ?hp (fun _ hk => hk) trivial (Below.refl _ _) (Nat.le_refl _) (by simp) ?_; (case hd => rfl); (case hg => rfl); (case hr => go_simp; try rfl); (case hp => exact (Reps.none _ _)); intro v108 w34 ho35 hb hg_ hnew_; clear hg_ hnew_; (first | rw [← Ny107.out] at ho35 | (simp only [Int.reduceToNat] at ho35; rw [← Ny107.out] at ho35)); refine mv4 (am (Kd.R_elder' (Kd.R_o HO105.out) (Kd.R_base ho35) hb)) (am (Kd.R_lower (Kd.R_new' ho35 (Kd.R_lt (Kd.R_o HO105.out))) (below_size (by exact bl_g HB.out)))) (am (blk_below (blk_o BK101.out) hb)) (am (below_step (by exact bl_g HB.out) hb)) ?_; clear HO105 BK101 HB; intro HO105 HO109 BK101 HB; clear hb ho35) | ((with_reducible refine gate_builtin (b := .append) (xs := #[.tmp 49, .tmp 50]) rfl ?_); (try (refine gate_guard (by rfl) ?_; dsimp only)); at_builtin; refine Kd.R_append_rows (Kd.int .u8) (w0 := w) w.heap.size rfl (.tmp 49) (.tmp 50) 28 5 (.int .u8 0) 1 rfl Try.underlying28 info5 rfl (by decide) (by omega) v108 y107 l5 _ _ _ (fun k_ => some k_ ≠ (v104 : Value).ownBlock) (fun _ => False) rfl rfl ?aO ?aR (fun _ _ h => h) (fun _ h => h.elim) ?aF ?aB ?aS ?aL ?_; (case aR => exact Kd.C_o (Kd.C_below HR5.out HB.out)); (case aB => exact (by exact bl_g HB.out)); (case aF => exact (fun k_ hk => Kd.fresh' (Kd.R_lt (Kd.R_o HO105.out)) k_ hk)); (case aO => exact (Kd.R_o (Kd.R_mono HO109.out (fun _ hk => hk.2)))); (case aS => exact (below_size (by exact bl_g HB.out))); (case aL => have := LMc15.out; omega); intro v111 w36 ho hb hg hat; rw [← Ny110.out] at ho; refine mv4 (am (blk_grown (g := gb101) (o := .cells #[.int .i64 a4_0, .int .i64 a4_1, .int .i64 a4_2, .int .i64 a4_3] 49 (0, 0)) (blk_o BK101.out) hg (Kd.R_ne HO109.out BK101.out (by decide)))) (am (Kd.R_after (ok := (fun _ => True)) (Kd.R_o HO105.out) hg hat)) (am (hb)) (am (ho)) ?_; clear BK101 HO105 HB HO109; intro BK101 HO105 HB HO112; clear ho hb hg hat; obtain ⟨Ao38, co38, eo38⟩ := Kd.R_slice HO105.out; subst eo38) | ((with_reducible refine gate_builtin (b := .append) (xs := #[.tmp 51, .tmp 52]) rfl ?_); (try (refine gate_guard (by rfl) ?_; dsimp only)); at_builtin; refine Kd.R_append_rows (Kd.int .u8) (w0 := w) w.heap.size rfl (.tmp 51) (.tmp 52) 28 5 (.int .u8 0) 1 rfl Try.underlying28 info5 rfl (by decide) (by omega) v111 y110 t102 _ _ _ (fun k_ => some k_ ≠ (.slice Ao38 t102.length co38 : Value).ownBlock) (fun _ => False) rfl rfl ?aO ?aR (fun _ _ h => h) (fun _ h => h.elim) ?aF ?aB ?aS ?aL ?_; (case aR => exact Kd.C_o ((Kd.R_reads' HO105.out).2.2)); (case aB => exact (by exact bl_g HB.out)); (case aF => exact (fun k_ hk => Kd.fresh' (Kd.R_lt (Kd.R_o HO105.out)) k_ hk)); (case aO => exact (Kd.R_o HO112.out)); (case aS => exact (below_size (by exact bl_g HB.out))); (case aL => have := LMc16.out; omega); intro v114 w37 ho hb hg hat; rw [← Ny113.out] at ho; refine mv4 (am (blk_grown (g := gb101) (o := .cells #[.int .i64 a4_0, .int .i64 a4_1, .int .i64 a4_2, .int .i64 a4_3] 49 (0, 0)) (blk_o BK101.out) hg (Kd.R_ne HO112.out BK101.out (by decide)))) (am (Kd.R_after (ok := (fun _ => True)) (Kd.R_o HO105.out) hg hat)) (am (hb)) (am (ho)) ?_; clear BK101 HO105 HB HO112; intro BK101 HO105 HB HO115; clear ho hb hg hat) | ((with_reducible refine gate_builtin (b := .append) (xs := #[.tmp 53, .tmp 54]) rfl ?_); (try (refine gate_guard (by rfl) ?_; dsimp only)); at_builtin; refine Kd.R_append_rows (Kd.int .u8) (w0 := w) w.heap.size rfl (.tmp 53) (.tmp 54) 28 5 (.int .u8 0) 1 rfl Try.underlying28 info5 rfl (by decide) (by omega) v114 y113 l6 _ _ _ (fun k_ => some k_ ≠ (.slice Ao38 t102.length co38 : Value).ownBlock) (fun _ => False) rfl rfl ?aO ?aR (fun _ _ h => h) (fun _ h => h.elim) ?aF ?aB ?aS ?aL ?_; (case aR => exact Kd.C_o (Kd.C_below HR6.out HB.out)); (case aB => exact (by exact bl_g HB.out)); (case aF => exact (fun k_ hk => Kd.fresh' (Kd.R_lt (Kd.R_o HO105.out)) k_ hk)); (case aO => exact (Kd.R_o HO115.out)); (case aS => exact (below_size (by exact bl_g HB.out))); (case aL => have := LMc17.out; omega); intro v117 w39 ho hb hg hat; rw [← Ny116.out] at ho; refine mv4 (am (blk_grown (g := gb101) (o := .cells #[.int .i64 a4_0, .int .i64 a4_1, .int .i64 a4_2, .int .i64 a4_3] 49 (0, 0)) (blk_o BK101.out) hg (Kd.R_ne HO115.out BK101.out (by decide)))) (am (Kd.R_after (ok := (fun _ => True)) (Kd.R_o HO105.out) hg hat)) (am (hb)) (am (ho)) ?_; clear BK101 HO105 HB HO115; intro BK101 HO105 HB HO118; clear ho hb hg hat; obtain ⟨hcz40_0, hcz40_1, hcz40_2, hcz40_3, hfz40_0, hfz40_1, hfz40_2, hfz40_3⟩ := cells4 BK101.out; obtain ⟨Ao41, co41, eo41⟩ := Kd.R_slice HO118.out; subst eo41) | ((with_reducible refine gate_callee (f := 18) rfl ?_); refine goesL_ (some 69) rfl rfl Try.func18 (by kernel_rfl) rfl #[.slice Ao41 y116.length co41, .int .i64 (l5.length : Int), .int .i64 a4_0, .int .i64 (wrap64 (a4_2 - (l5.length : Int))), .int .i64 a4_3] rfl (by simp only [ml]; try rfl) ?_; (with_reducible refine (ehframe_Get.calls k _ _ y116 (l5.length : Int) a4_0 (wrap64 (a4_2 - (l5.length : Int))) a4_3 t119 t120 t121 _ ?side1 ?side2 A18.out).mono ?_); (case side1 => exact Kd.C_o ((Kd.R_reads' HO118.out).2.2)); (case side2 => exact (Kd.R_reads' HO118.out).2.1); rintro e w42 ⟨rfl, hb⟩; refine ⟨_, rfl, ?_⟩; refine mv4 (am (Kd.R_below (Kd.R_o HO105.out) hb)) (am (Kd.R_below (Kd.R_o HO118.out) hb)) (am (blk_below (blk_o BK101.out) hb)) (am (below_step (by exact bl_g HB.out) hb)) ?_; clear HO105 HO118 BK101 HB; intro HO105 HO118 BK101 HB; obtain ⟨hcz43_0, hcz43_1, hcz43_2, hcz43_3, hfz43_0, hfz43_1, hfz43_2, hfz43_3⟩ := cells4 BK101.out))
   go_meet
   case rel => exact ⟨_, H', ⟨by first | omega | exact Nat.le_refl _⟩, ⟨by (with_reducible repeat (first | refine blk_drewN ?_ _ | refine blk_drew ?_ | refine blk_alloc ?_ _)); exact BK101.out⟩, ⟨by exact bl_g HB.out⟩⟩
  rw [if_pos c19] at H
  have c19b0 : decide ((-1152921504606846976) ≤ (wrap64 (a4_2 - (l5.length : Int)))) = true := decide_eq_true c19
  clear c19
  replace H := Option.bind_eq_some_iff.mp H
  obtain ⟨t122, A200, H⟩ := H
  replace H : (if t122 = 0 then (if t119 = a4_1 then (if t120 = (wrap64 ((l5.length : Int) + (t102.length : Int))) then (gangwaylaw14_EhframeBack.j0 k l0 l1 a2 a3) else (none)) else (none)) else (none)) = some r := H
  have A20 := am A200
  clear A200
  by_cases c21 : t122 = 0
  rotate_left
  ·
   rw [if_neg c21] at H
   exact absurd H (by simp)
  rw [if_pos c21] at H
  have c21b0 : (t122 == 0) = true := beq_iff_eq.mpr c21
  have c21b1 : (t122 != 0) = false := bne_eq_false_iff_eq.mpr c21
  clear c21
  by_cases c22 : t119 = a4_1
  rotate_left
  ·
   rw [if_neg c22] at H
   exact absurd H (by simp)
  rw [if_pos c22] at H
  have c22b0 : (t119 == a4_1) = true := beq_iff_eq.mpr c22
  have c22b1 : (t119 != a4_1) = false := bne_eq_false_iff_eq.mpr c22
  clear c22
  by_cases c23 : t120 = (wrap64 ((l5.length : Int) + (t102.length : Int)))
  rotate_left
  ·
   rw [if_neg c23] at H
   exact absurd H (by simp)
  rw [if_pos c23] at H
  have c23b0 : (t120 == (wrap64 ((l5.length : Int) + (t102.length : Int)))) = true := beq_iff_eq.mpr c23
  have c23b1 : (t120 != (wrap64 ((l5.length : Int) + (t102.length : Int)))) = false := bne_eq_false_iff_eq.mpr c23
  clear c23
  have H' := am H
  clear H
  go_wp2_with (first | ((with_reducible refine gate_dst (N := 49) rfl ?_); (try (refine gate_guard (by rfl) ?_; dsimp only)); refine Kd.R_lit (Kd.int .u8) _ 5 ?hg (N := 49) ?hd (xs := ([] : List Int)) (inner := []) (ok := fun _ => True) (okp := fun _ => True) ?hr ?hp (fun _ hk => hk) trivial (Below.refl _ _) (Nat.le_refl _) (by simp) ?_; (case hd => rfl); (case hg => rfl); (case hr => go_simp; try rfl); (case hp => exact (Reps.none _ _)); intro v108 w24 ho25 hb hg_ hnew_; clear hg_ hnew_; (first | rw [← Ny107.out] at ho25 | (simp only [Int.reduceToNat] at ho25; rw [← Ny107.out] at ho25)); refine mv4 (am (Kd.R_elder' (Kd.R_o HO105.out) (Kd.R_base ho25) hb)) (am (Kd.R_lower (Kd.R_new' ho25 (Kd.R_lt (Kd.R_o HO105.out))) (below_size (by exact bl_g HB.out)))) (am (blk_below (blk_o BK101.out) hb)) (am (below_step (by exact bl_g HB.out) hb)) ?_; clear HO105 BK101 HB; intro HO105 HO109 BK101 HB; clear hb ho25) | ((with_reducible refine gate_builtin (b := .append) (xs := #[.tmp 49, .tmp 50]) rfl ?_); (try (refine gate_guard (by rfl) ?_; dsimp only)); at_builtin; refine Kd.R_append_rows (Kd.int .u8) (w0 := w) w.heap.size rfl (.tmp 49) (.tmp 50) 28 5 (.int .u8 0) 1 rfl Try.underlying28 info5 rfl (by decide) (by omega) v108 y107 l5 _ _ _ (fun k_ => some k_ ≠ (v104 : Value).ownBlock) (fun _ => False) rfl rfl ?aO ?aR (fun _ _ h => h) (fun _ h => h.elim) ?aF ?aB ?aS ?aL ?_; (case aR => exact Kd.C_o (Kd.C_below HR5.out HB.out)); (case aB => exact (by exact bl_g HB.out)); (case aF => exact (fun k_ hk => Kd.fresh' (Kd.R_lt (Kd.R_o HO105.out)) k_ hk)); (case aO => exact (Kd.R_o (Kd.R_mono HO109.out (fun _ hk => hk.2)))); (case aS => exact (below_size (by exact bl_g HB.out))); (case aL => have := LMc15.out; omega); intro v111 w26 ho hb hg hat; rw [← Ny110.out] at ho; refine mv4 (am (blk_grown (g := gb101) (o := .cells #[.int .i64 a4_0, .int .i64 a4_1, .int .i64 a4_2, .int .i64 a4_3] 49 (0, 0)) (blk_o BK101.out) hg (Kd.R_ne HO109.out BK101.out (by decide)))) (am (Kd.R_after (ok := (fun _ => True)) (Kd.R_o HO105.out) hg hat)) (am (hb)) (am (ho)) ?_; clear BK101 HO105 HB HO109; intro BK101 HO105 HB HO112; clear ho hb hg hat; obtain ⟨Ao28, co28, eo28⟩ := Kd.R_slice HO105.out; subst eo28) | ((with_reducible refine gate_builtin (b := .append) (xs := #[.tmp 51, .tmp 52]) rfl ?_); (try (refine gate_guard (by rfl) ?_; dsimp only)); at_builtin; refine Kd.R_append_rows (Kd.int .u8) (w0 := w) w.heap.size rfl (.tmp 51) (.tmp 52) 28 5 (.int .u8 0) 1 rfl Try.underlying28 info5 rfl (by decide) (by omega) v111 y110 t102 _ _ _ (fun k_ => some k_ ≠ (.slice Ao28 t102.length co28 : Value).ownBlock) (fun _ => False) rfl rfl ?aO ?aR (fun _ _ h => h) (fun _ h => h.elim) ?aF ?aB ?aS ?aL ?_; (case aR => exact Kd.C_o ((Kd.R_reads' HO105.out).2.2)); (case aB => exact (by exact bl_g HB.out)); (case aF => exact (fun k_ hk => Kd.fresh' (Kd.R_lt (Kd.R_o HO105.out)) k_ hk)); (case aO => exact (Kd.R_o HO112.out)); (case aS => exact (below_size (by exact bl_g HB.out))); (case aL => have := LMc16.out; omega); intro v114 w27 ho hb hg hat; rw [← Ny113.out] at ho; refine mv4 (am (blk_grown (g := gb101) (o := .cells #[.int .i64 a4_0, .int .i64 a4_1, .int .i64 a4_2, .int .i64 a4_3] 49 (0, 0)) (blk_o BK101.out) hg (Kd.R_ne HO112.out BK101.out (by decide)))) (am (Kd.R_after (ok := (fun _ => True)) (Kd.R_o HO105.out) hg hat)) (am (hb)) (am (ho)) ?_; clear BK101 HO105 HB HO112; intro BK101 HO105 HB HO115; clear ho hb hg hat) | ((with_reducible refine gate_builtin (b := .append) (xs := #[.tmp 53, .tmp 54]) rfl ?_); (try (refine gate_guard (by rfl) ?_; dsimp only)); at_builtin; refine Kd.R_append_rows (Kd.int .u8) (w0 := w) w.heap.size rfl (.tmp 53) (.tmp 54) 28 5 (.int .u8 0) 1 rfl Try.underlying28 info5 rfl (by decide) (by omega) v114 y113 l6 _ _ _ (fun k_ => some k_ ≠ (.slice Ao28 t102.length co28 : Value).ownBlock) (fun _ => False) rfl rfl ?aO ?aR (fun _ _ h => h) (fun _ h => h.elim) ?aF ?aB ?aS ?aL ?_; (case aR => exact Kd.C_o (Kd.C_below HR6.out HB.out)); (case aB => exact (by exact bl_g HB.out)); (case aF => exact (fun k_ hk => Kd.fresh' (Kd.R_lt (Kd.R_o HO105.out)) k_ hk)); (case aO => exact (Kd.R_o HO115.out)); (case aS => exact (below_size (by exact bl_g HB.out))); (case aL => have := LMc17.out; omega); intro v117 w29 ho hb hg hat; rw [← Ny116.out] at ho; refine mv4 (am (blk_grown (g := gb101) (o := .cells #[.int .i64 a4_0, .int .i64 a4_1, .int .i64 a4_2, .int .i64 a4_3] 49 (0, 0)) (blk_o BK101.out) hg (Kd.R_ne HO115.out BK101.out (by decide)))) (am (Kd.R_after (ok := (fun _ => True)) (Kd.R_o HO105.out) hg hat)) (am (hb)) (am (ho)) ?_; clear BK101 HO105 HB HO115; intro BK101 HO105 HB HO118; clear ho hb hg hat; obtain ⟨hcz30_0, hcz30_1, hcz30_2, hcz30_3, hfz30_0, hfz30_1, hfz30_2, hfz30_3⟩ := cells4 BK101.out; obtain ⟨Ao31, co31, eo31⟩ := Kd.R_slice HO118.out; subst eo31) | ((with_reducible refine gate_callee (f := 18) rfl ?_); refine goesL_ (some 69) rfl rfl Try.func18 (by kernel_rfl) rfl #[.slice Ao31 y116.length co31, .int .i64 (l5.length : Int), .int .i64 a4_0, .int .i64 (wrap64 (a4_2 - (l5.length : Int))), .int .i64 a4_3] rfl (by simp only [ml]; try rfl) ?_; (with_reducible refine (ehframe_Get.calls k _ _ y116 (l5.length : Int) a4_0 (wrap64 (a4_2 - (l5.length : Int))) a4_3 t119 t120 t121 _ ?side1 ?side2 A18.out).mono ?_); (case side1 => exact Kd.C_o ((Kd.R_reads' HO118.out).2.2)); (case side2 => exact (Kd.R_reads' HO118.out).2.1); rintro e w32 ⟨rfl, hb⟩; refine ⟨_, rfl, ?_⟩; refine mv4 (am (Kd.R_below (Kd.R_o HO105.out) hb)) (am (Kd.R_below (Kd.R_o HO118.out) hb)) (am (blk_below (blk_o BK101.out) hb)) (am (below_step (by exact bl_g HB.out) hb)) ?_; clear HO105 HO118 BK101 HB; intro HO105 HO118 BK101 HB; obtain ⟨hcz33_0, hcz33_1, hcz33_2, hcz33_3, hfz33_0, hfz33_1, hfz33_2, hfz33_3⟩ := cells4 BK101.out) | (go_at_call 11; (with_reducible refine (gangwaylaw14_num.calls t121 t122 _ A20.out).mono ?_); rintro e w' ⟨rfl, ⟨nd, rfl⟩⟩))
  go_meet
  case rel => exact ⟨_, H', ⟨by first | omega | exact Nat.le_refl _⟩, ⟨by (with_reducible repeat (first | refine blk_drewN ?_ _ | refine blk_drew ?_ | refine blk_alloc ?_ _)); exact BK101.out⟩, ⟨by exact bl_g HB.out⟩⟩
 case rest =>
  clear HC10
  try clear c1
  try clear c2
  try clear p2
  try clear c5
  try clear c6
  try clear p6
  try clear c11
  try clear c14
  try clear c14b0
  try clear c14b1
  try clear c15
  try clear c16
  try clear c17
  try clear c18
  try clear c19
  try clear c19b0
  try clear c21
  try clear c21b0
  try clear c21b1
  try clear c22
  try clear c22b0
  try clear c22b1
  try clear c23
  try clear c23b0
  try clear c23b1
  try clear hcz12_0
  try clear hcz12_1
  try clear hcz12_2
  try clear hcz12_3
  try clear hcz30_0
  try clear hcz30_1
  try clear hcz30_2
  try clear hcz30_3
  try clear hcz33_0
  try clear hcz33_1
  try clear hcz33_2
  try clear hcz33_3
  try clear hcz40_0
  try clear hcz40_1
  try clear hcz40_2
  try clear hcz40_3
  try clear hcz43_0
  try clear hcz43_1
  try clear hcz43_2
  try clear hcz43_3
  try clear hfz12_0
  try clear hfz12_1
  try clear hfz12_2
  try clear hfz12_3
  try clear hfz30_0
  try clear hfz30_1
  try clear hfz30_2
  try clear hfz30_3
  try clear hfz33_0
  try clear hfz33_1
  try clear hfz33_2
  try clear hfz33_3
  try clear hfz40_0
  try clear hfz40_1
  try clear hfz40_2
  try clear hfz40_3
  try clear hfz43_0
  try clear hfz43_1
  try clear hfz43_2
  try clear hfz43_3
  obtain ⟨kq, HA, HJ9, BK101, HB⟩ := hcut
  cases kq with
  | zero => exact absurd HA.out (by simp [gangwaylaw14_EhframeBack.j0])
  | succ kj9 =>
   have H := HA.out
   clear HA
   simp only [gangwaylaw14_EhframeBack.j0] at H
   replace H := Option.bind_eq_some_iff.mp H
   obtain ⟨⟨t123, t124⟩, A440, H⟩ := H
   replace H : ((ehframe_Write.f kj9 t123 t124 a2 a3).bind fun bt129 => ((gangwaylaw14_num.f bt129.2.2).bind fun t136 => (if t136 = 0 then (gangwaylaw14_EhframeBack.l0 kj9 l0 l1 a2 bt129.1 ([] : List (S61)) ([] : List (S43)) 0) else (if (bt129.1.length : Int) = 0 then ((gangwaylaw14_live.f kj9).bind fun t137 => (some t137)) else (none))))) = some r := H
   have A44 := am A440
   clear A440
   replace H := Option.bind_eq_some_iff.mp H
   obtain ⟨⟨t129, t130, t131⟩, A450, H⟩ := H
   replace H : ((gangwaylaw14_num.f t131).bind fun t136 => (if t136 = 0 then (gangwaylaw14_EhframeBack.l0 kj9 l0 l1 a2 t129 ([] : List (S61)) ([] : List (S43)) 0) else (if (t129.length : Int) = 0 then ((gangwaylaw14_live.f kj9).bind fun t137 => (some t137)) else (none)))) = some r := H
   have A45 := am A450
   clear A450
   replace H := Option.bind_eq_some_iff.mp H
   obtain ⟨t136, A460, H⟩ := H
   replace H : (if t136 = 0 then (gangwaylaw14_EhframeBack.l0 kj9 l0 l1 a2 t129 ([] : List (S61)) ([] : List (S43)) 0) else (if (t129.length : Int) = 0 then ((gangwaylaw14_live.f kj9).bind fun t137 => (some t137)) else (none))) = some r := H
   have A46 := am A460
   clear A460
   by_cases c47 : t136 = 0
   rotate_left
   ·
    rw [if_neg c47] at H
    have c47b0 : (t136 == 0) = false := beq_eq_false_iff_ne.mpr c47
    have c47b1 : (t136 != 0) = true := bne_iff_ne.mpr c47
    by_cases c90 : (t129.length : Int) = 0
    rotate_left
    ·
     rw [if_neg c90] at H
     exact absurd H (by simp)
    rw [if_pos c90] at H
    have c90b0 : ((t129.length : Int) == 0) = true := beq_iff_eq.mpr c90
    have c90b1 : ((t129.length : Int) != 0) = false := bne_eq_false_iff_eq.mpr c90
    clear c90
    replace H := Option.bind_eq_some_iff.mp H
    obtain ⟨t137, A910, H⟩ := H
    replace H : (some t137) = some r := H
    have A91 := am A910
    clear A910
    obtain rfl := Option.some.inj H
    go_wp2_with (first | ((with_reducible refine gate_callee (f := 8) rfl ?_); refine goesL_ (some 102) rfl rfl Try.func8 (by kernel_rfl) rfl #[.slice A0 l0.length c0, .slice A1 l1.length c1] rfl (by simp only [ml]; try rfl) ?_; (with_reducible refine (gangwaylaw14_tables.calls kj9 _ _ l0 _ _ l1 t123 t124 _ ?side1 ?side2 ?side3 ?side4 A44.out).mono ?_); (case side1 => exact Kd.C_o (Kd.C_below HR0.out HB.out)); (case side2 => exact HC0.out); (case side3 => exact Kd.C_o (Kd.C_below HR1.out HB.out)); (case side4 => exact HC1.out); rintro e w92 ⟨v125, v127, rfl, ho0, ho1, hb⟩; refine ⟨_, rfl, ?_⟩; refine mv4 (am (Kd.N_lower (Kd.N_mono (ok' := fun k_ => some k_ ≠ (v127 : Value).ownBlock ∧ k_ ≠ gb101) (Kd.S_N (Kd.S_bound (Kd.S_apart' ho0 (Kd.S_typed ho1) (by decide)))) (fun k_ hk_ => ⟨hk_.1.2, (Kd.freshB (g := gb101) (o := .cells #[.int .i64 a4_0, .int .i64 a4_1, .int .i64 a4_2, .int .i64 a4_3] 49 (0, 0)) (blk_o BK101.out) k_ hk_.2.1)⟩)) (below_size (by exact bl_g HB.out)))) (am (Kd.N_lower (Kd.N_mono (ok' := fun k_ => some k_ ≠ (v125 : Value).ownBlock ∧ k_ ≠ gb101) (Kd.S_N (Kd.S_bound (Kd.S_apart' ho1 (Kd.S_typed ho0) (by decide)))) (fun k_ hk_ => ⟨hk_.1.2, (Kd.freshB (g := gb101) (o := .cells #[.int .i64 a4_0, .int .i64 a4_1, .int .i64 a4_2, .int .i64 a4_3] 49 (0, 0)) (blk_o BK101.out) k_ hk_.2.1)⟩)) (below_size (by exact bl_g HB.out)))) (am (blk_below (blk_o BK101.out) hb)) (am (below_step (by exact bl_g HB.out) hb)) ?_; clear BK101 HB; intro HO126 HO128 BK101 HB; (try clear ho1); obtain ⟨Ao93, co93, eo93⟩ := Kd.N_slice HO126.out; subst eo93; obtain ⟨Ao94, co94, eo94⟩ := Kd.N_slice HO128.out; subst eo94) | ((with_reducible refine gate_callee (f := 9) rfl ?_); refine goesL_ (some 110) rfl rfl Try.func9 (by kernel_rfl) rfl #[.slice Ao93 t123.length co93, .slice Ao94 t124.length co94, .int .i64 a2, .bool a3] rfl (by simp only [ml]; try rfl) ?_; (with_reducible refine (ehframe_Write.calls kj9 _ _ t123 _ _ t124 a2 a3 t129 t130 t131 _ ?side1 ?side2 ?side3 ?side4 A45.out).mono ?_); (case side1 => exact Kd.C_o ((Kd.N_reads' HO126.out).2.2)); (case side2 => exact (Kd.N_reads' HO126.out).2.1); (case side3 => exact Kd.C_o ((Kd.N_reads' HO128.out).2.2)); (case side4 => exact (Kd.N_reads' HO128.out).2.1); rintro e w95 ⟨v132, v134, rfl, ho0, ho1, hb⟩; refine ⟨_, rfl, ?_⟩; refine mv6 (am (Kd.N_mono (Kd.N_told (Kd.N_told (Kd.N_old (by (with_reducible repeat (first | apply Kd.N_alloc | apply Kd.N_drewN | apply Kd.N_drew)); exact HO126.out) hb) (Kd.R_base ho0)) (Kd.R_base ho1)) (fun _ h_ => h_.1))) (am (Kd.N_mono (Kd.N_told (Kd.N_told (Kd.N_old (by (with_reducible repeat (first | apply Kd.N_alloc | apply Kd.N_drewN | apply Kd.N_drew)); exact HO128.out) hb) (Kd.R_base ho0)) (Kd.R_base ho1)) (fun _ h_ => h_.1))) (am (Kd.R_lower ho0 (below_size (by exact bl_g HB.out)))) (am (Kd.R_lower ho1 (below_size (by exact bl_g HB.out)))) (am (blk_below (blk_o BK101.out) hb)) (am (below_step (by exact bl_g HB.out) hb)) ?_; clear HO126 HO128 BK101 HB; intro HO126 HO128 HO133 HO135 BK101 HB; (try clear ho1)) | ((with_reducible refine gate_callee (f := 11) rfl ?_); refine goesL_ (some 115) rfl rfl Try.func11 (by kernel_rfl) rfl #[.int .i64 t131] rfl (by simp only [ml]; try rfl) ?_; (with_reducible refine (gangwaylaw14_num.calls t131 t136 _ A46.out).mono ?_); rintro e w' ⟨rfl, ⟨nd, rfl⟩⟩; refine ⟨_, rfl, ?_⟩; obtain ⟨Ao96, co96, eo96⟩ := Kd.R_slice HO133.out; subst eo96) | (go_at_call 15; (with_reducible refine (gangwaylaw14_live.calls kj9  t137 _ A91.out).mono ?_); rintro e w97 ⟨rfl, hb⟩; refine mv6 (am (Kd.N_below (by (with_reducible repeat (first | apply Kd.N_alloc | apply Kd.N_drewN | apply Kd.N_drew)); exact HO126.out) hb)) (am (Kd.N_below (by (with_reducible repeat (first | apply Kd.N_alloc | apply Kd.N_drewN | apply Kd.N_drew)); exact HO128.out) hb)) (am (Kd.R_below (Kd.R_o HO133.out) hb)) (am (Kd.R_below (Kd.R_o HO135.out) hb)) (am (blk_below (blk_o BK101.out) hb)) (am (below_step (by exact bl_g HB.out) hb)) ?_; clear HO126 HO128 HO133 HO135 BK101 HB; intro HO126 HO128 HO133 HO135 BK101 HB))
    go_ret
    exact ⟨rfl, by exact bl_g HB.out⟩
   rw [if_pos c47] at H
   have c47b0 : (t136 == 0) = true := beq_iff_eq.mpr c47
   have c47b1 : (t136 != 0) = false := bne_eq_false_iff_eq.mpr c47
   clear c47
   have H' := am H
   clear H
   go_wp2_with (first | ((with_reducible refine gate_callee (f := 8) rfl ?_); refine goesL_ (some 102) rfl rfl Try.func8 (by kernel_rfl) rfl #[.slice A0 l0.length c0, .slice A1 l1.length c1] rfl (by simp only [ml]; try rfl) ?_; (with_reducible refine (gangwaylaw14_tables.calls kj9 _ _ l0 _ _ l1 t123 t124 _ ?side1 ?side2 ?side3 ?side4 A44.out).mono ?_); (case side1 => exact Kd.C_o (Kd.C_below HR0.out HB.out)); (case side2 => exact HC0.out); (case side3 => exact Kd.C_o (Kd.C_below HR1.out HB.out)); (case side4 => exact HC1.out); rintro e w48 ⟨v125, v127, rfl, ho0, ho1, hb⟩; refine ⟨_, rfl, ?_⟩; refine mv4 (am (Kd.N_lower (Kd.N_mono (ok' := fun k_ => some k_ ≠ (v127 : Value).ownBlock ∧ k_ ≠ gb101) (Kd.S_N (Kd.S_bound (Kd.S_apart' ho0 (Kd.S_typed ho1) (by decide)))) (fun k_ hk_ => ⟨hk_.1.2, (Kd.freshB (g := gb101) (o := .cells #[.int .i64 a4_0, .int .i64 a4_1, .int .i64 a4_2, .int .i64 a4_3] 49 (0, 0)) (blk_o BK101.out) k_ hk_.2.1)⟩)) (below_size (by exact bl_g HB.out)))) (am (Kd.N_lower (Kd.N_mono (ok' := fun k_ => some k_ ≠ (v125 : Value).ownBlock ∧ k_ ≠ gb101) (Kd.S_N (Kd.S_bound (Kd.S_apart' ho1 (Kd.S_typed ho0) (by decide)))) (fun k_ hk_ => ⟨hk_.1.2, (Kd.freshB (g := gb101) (o := .cells #[.int .i64 a4_0, .int .i64 a4_1, .int .i64 a4_2, .int .i64 a4_3] 49 (0, 0)) (blk_o BK101.out) k_ hk_.2.1)⟩)) (below_size (by exact bl_g HB.out)))) (am (blk_below (blk_o BK101.out) hb)) (am (below_step (by exact bl_g HB.out) hb)) ?_; clear BK101 HB; intro HO126 HO128 BK101 HB; (try clear ho1); obtain ⟨Ao49, co49, eo49⟩ := Kd.N_slice HO126.out; subst eo49; obtain ⟨Ao50, co50, eo50⟩ := Kd.N_slice HO128.out; subst eo50) | ((with_reducible refine gate_callee (f := 9) rfl ?_); refine goesL_ (some 110) rfl rfl Try.func9 (by kernel_rfl) rfl #[.slice Ao49 t123.length co49, .slice Ao50 t124.length co50, .int .i64 a2, .bool a3] rfl (by simp only [ml]; try rfl) ?_; (with_reducible refine (ehframe_Write.calls kj9 _ _ t123 _ _ t124 a2 a3 t129 t130 t131 _ ?side1 ?side2 ?side3 ?side4 A45.out).mono ?_); (case side1 => exact Kd.C_o ((Kd.N_reads' HO126.out).2.2)); (case side2 => exact (Kd.N_reads' HO126.out).2.1); (case side3 => exact Kd.C_o ((Kd.N_reads' HO128.out).2.2)); (case side4 => exact (Kd.N_reads' HO128.out).2.1); rintro e w51 ⟨v132, v134, rfl, ho0, ho1, hb⟩; refine ⟨_, rfl, ?_⟩; refine mv6 (am (Kd.N_mono (Kd.N_told (Kd.N_told (Kd.N_old (by (with_reducible repeat (first | apply Kd.N_alloc | apply Kd.N_drewN | apply Kd.N_drew)); exact HO126.out) hb) (Kd.R_base ho0)) (Kd.R_base ho1)) (fun _ h_ => h_.1))) (am (Kd.N_mono (Kd.N_told (Kd.N_told (Kd.N_old (by (with_reducible repeat (first | apply Kd.N_alloc | apply Kd.N_drewN | apply Kd.N_drew)); exact HO128.out) hb) (Kd.R_base ho0)) (Kd.R_base ho1)) (fun _ h_ => h_.1))) (am (Kd.R_lower ho0 (below_size (by exact bl_g HB.out)))) (am (Kd.R_lower ho1 (below_size (by exact bl_g HB.out)))) (am (blk_below (blk_o BK101.out) hb)) (am (below_step (by exact bl_g HB.out) hb)) ?_; clear HO126 HO128 BK101 HB; intro HO126 HO128 HO133 HO135 BK101 HB; (try clear ho1)) | ((with_reducible refine gate_callee (f := 11) rfl ?_); refine goesL_ (some 115) rfl rfl Try.func11 (by kernel_rfl) rfl #[.int .i64 t131] rfl (by simp only [ml]; try rfl) ?_; (with_reducible refine (gangwaylaw14_num.calls t131 t136 _ A46.out).mono ?_); rintro e w' ⟨rfl, ⟨nd, rfl⟩⟩; refine ⟨_, rfl, ?_⟩))
   go_loopg [26, 27, 28] kj9 (fun kq v26 v27 v28 w' => ∃ (x26_2 : List (S61)) (x27_2 : List (S43)) (x28_2 : Int), v28 = .int .i64 x28_2 ∧ Aside0 (gangwaylaw14_EhframeBack.l0 kq l0 l1 a2 t129 x26_2 x27_2 x28_2 = some r) ∧ Aside0 (kq ≤ kj9) ∧ Aside0 (Kd.R (Kd.int .u8) 5 w' w.heap.size (fun _ => True) v132 t129) ∧ Aside0 (Kd.N k61 61 w' w.heap.size (fun k_ => some k_ ≠ (v132 : Value).ownBlock ∧ some k_ ≠ (v27 : Value).ownBlock ∧ k_ ≠ gb101) v26 x26_2) ∧ Aside0 (Kd.N k43 43 w' w.heap.size (fun k_ => some k_ ≠ (v132 : Value).ownBlock ∧ some k_ ≠ (v26 : Value).ownBlock ∧ k_ ≠ gb101) v27 x27_2) ∧ Aside0 (w'.heap[gb101]? = some (.cells #[.int .i64 a4_0, .int .i64 a4_1, .int .i64 a4_2, .int .i64 a4_3] 49 (0, 0))) ∧ Aside0 (Below w.heap.size w w'))
   case atStart => exact ⟨(([] : List (S61))), (([] : List (S43))), (0), (by first | rfl | (simp; done) | (simp [*]; done)), H', ⟨Nat.le_refl _⟩, ⟨by (with_reducible repeat (first | apply Kd.R_alloc | apply Kd.R_drewN | apply Kd.R_drew)); exact HO133.out⟩, ⟨by first | exact Kd.S_nil _ _ _ _ _ | exact Kd.N_nil _ _ _ _ _ | exact Kd.V_nil _ _ _ _ _ | exact Kd.Q_nil _ _ _ _ _ | exact Kd.R_nil _ _ _ _ _⟩, ⟨by first | exact Kd.S_nil _ _ _ _ _ | exact Kd.N_nil _ _ _ _ _ | exact Kd.V_nil _ _ _ _ _ | exact Kd.Q_nil _ _ _ _ _ | exact Kd.R_nil _ _ _ _ _⟩, ⟨by (with_reducible repeat (first | refine blk_drewN ?_ _ | refine blk_drew ?_ | refine blk_alloc ?_ _)); exact BK101.out⟩, ⟨by exact bl_g HB.out⟩⟩
   case round =>
    clear H'
    try clear c1
    try clear c2
    try clear p2
    try clear c4
    try clear c5
    try clear c6
    try clear p6
    try clear c8
    try clear c9
    try clear c11
    try clear c14
    try clear c14b0
    try clear c14b1
    try clear c15
    try clear c16
    try clear c17
    try clear c18
    try clear c19
    try clear c19b0
    try clear c21
    try clear c21b0
    try clear c21b1
    try clear c22
    try clear c22b0
    try clear c22b1
    try clear c23
    try clear c23b0
    try clear c23b1
    try clear c47
    try clear c47b0
    try clear c47b1
    try clear hcz12_0
    try clear hcz12_1
    try clear hcz12_2
    try clear hcz12_3
    try clear hcz30_0
    try clear hcz30_1
    try clear hcz30_2
    try clear hcz30_3
    try clear hcz33_0
    try clear hcz33_1
    try clear hcz33_2
    try clear hcz33_3
    try clear hcz40_0
    try clear hcz40_1
    try clear hcz40_2
    try clear hcz40_3
    try clear hcz43_0
    try clear hcz43_1
    try clear hcz43_2
    try clear hcz43_3
    try clear hfz12_0
    try clear hfz12_1
    try clear hfz12_2
    try clear hfz12_3
    try clear hfz30_0
    try clear hfz30_1
    try clear hfz30_2
    try clear hfz30_3
    try clear hfz33_0
    try clear hfz33_1
    try clear hfz33_2
    try clear hfz33_3
    try clear hfz40_0
    try clear hfz40_1
    try clear hfz40_2
    try clear hfz40_3
    try clear hfz43_0
    try clear hfz43_1
    try clear hfz43_2
    try clear hfz43_3
    try clear p2
    try clear p6
    obtain ⟨x26_2, x27_2, x28_2, rfl, HA, HK2, HO_23, HO_26, HO_27, BK101, HB⟩ := hrel
    cases gk with
    | zero => exact absurd HA.out (by simp [gangwaylaw14_EhframeBack.l0])
    | succ k2 =>
     have H := HA.out
     clear HA
     simp only [gangwaylaw14_EhframeBack.l0] at H
     by_cases c52 : x28_2 < (l0.length : Int)
     rotate_left
     ·
      rw [if_neg c52] at H
      have c52b0 : decide (x28_2 < (l0.length : Int)) = false := decide_eq_false c52
      clear c52
      replace H := Option.bind_eq_some_iff.mp H
      obtain ⟨⟨t155, t156, t157⟩, A760, H⟩ := H
      replace H : ((gangwaylaw14_num.f t157).bind fun t162 => (if t162 = 0 then ((gangwaylaw14_same.f k2 t155 t156 x27_2 x26_2).bind fun t163 => (if t163 = true then ((gangwaylaw14_live.f k2).bind fun t164 => (some t164)) else (none))) else (none))) = some r := H
      have A76 := am A760
      clear A760
      replace H := Option.bind_eq_some_iff.mp H
      obtain ⟨t162, A770, H⟩ := H
      replace H : (if t162 = 0 then ((gangwaylaw14_same.f k2 t155 t156 x27_2 x26_2).bind fun t163 => (if t163 = true then ((gangwaylaw14_live.f k2).bind fun t164 => (some t164)) else (none))) else (none)) = some r := H
      have A77 := am A770
      clear A770
      by_cases c78 : t162 = 0
      rotate_left
      ·
       rw [if_neg c78] at H
       exact absurd H (by simp)
      rw [if_pos c78] at H
      have c78b0 : (t162 == 0) = true := beq_iff_eq.mpr c78
      have c78b1 : (t162 != 0) = false := bne_eq_false_iff_eq.mpr c78
      clear c78
      replace H := Option.bind_eq_some_iff.mp H
      obtain ⟨t163, A790, H⟩ := H
      replace H : (if t163 = true then ((gangwaylaw14_live.f k2).bind fun t164 => (some t164)) else (none)) = some r := H
      have A79 := am A790
      clear A790
      by_cases c80 : t163 = true
      rotate_left
      ·
       replace c80 := Bool.eq_false_iff.mpr c80
       subst c80
       replace H : (none) = some r := by rw [if_neg (show ¬ (false = true) by decide)] at H; exact H
       exact absurd H (by simp)
      subst c80
      replace H : ((gangwaylaw14_live.f k2).bind fun t164 => (some t164)) = some r := by rw [if_pos rfl] at H; exact H
      replace H := Option.bind_eq_some_iff.mp H
      obtain ⟨t164, A810, H⟩ := H
      replace H : (some t164) = some r := H
      have A81 := am A810
      clear A810
      obtain rfl := Option.some.inj H
      obtain ⟨Ao82, co82, eo82⟩ := Kd.R_slice HO_23.out
      subst eo82
      go_wp2_with (first | ((with_reducible refine gate_callee (f := 21) rfl ?_); refine goesL_ (some 172) rfl rfl Try.func21 (by kernel_rfl) rfl #[.slice Ao82 t129.length co82, .int .i64 a2] rfl (by simp only [ml]; try rfl) ?_; (with_reducible refine (ehframe_Read.calls _ _ t129 a2 t155 t156 t157 _ ?side1 ?side2 A76.out).mono ?_); (case side1 => exact Kd.C_o ((Kd.R_reads' HO_23.out).2.2)); (case side2 => exact (Kd.R_reads' HO_23.out).2.1); rintro e w83 ⟨v158, v160, rfl, ho0, ho1, hb⟩; refine ⟨_, rfl, ?_⟩; refine mv7 (am (Kd.R_below (Kd.R_o HO_23.out) hb)) (am (Kd.N_mono (Kd.N_told (Kd.N_told (Kd.N_old (by (with_reducible repeat (first | apply Kd.N_alloc | apply Kd.N_drewN | apply Kd.N_drew)); exact HO_26.out) hb) (Kd.S_base ho0)) (Kd.S_base ho1)) (fun _ h_ => h_.1))) (am (Kd.N_mono (Kd.N_told (Kd.N_told (Kd.N_old (by (with_reducible repeat (first | apply Kd.N_alloc | apply Kd.N_drewN | apply Kd.N_drew)); exact HO_27.out) hb) (Kd.S_base ho0)) (Kd.S_base ho1)) (fun _ h_ => h_.1))) (am (Kd.N_lower (Kd.N_mono (ok' := fun k_ => some k_ ≠ (v160 : Value).ownBlock ∧ some k_ ≠ (.slice Ao82 t129.length co82 : Value).ownBlock ∧ some k_ ≠ (u26 : Value).ownBlock ∧ some k_ ≠ (u27 : Value).ownBlock ∧ k_ ≠ gb101) (Kd.S_N (Kd.S_bound (Kd.S_apart' ho0 (Kd.S_typed ho1) (by decide)))) (fun k_ hk_ => ⟨hk_.1.2, (Kd.fresh' (Kd.R_lt (Kd.R_o HO_23.out)) k_ hk_.2.1), (Kd.fresh' (Kd.N_lt (by (with_reducible repeat (first | apply Kd.N_alloc | apply Kd.N_drewN | apply Kd.N_drew)); exact HO_26.out)) k_ hk_.2.1), (Kd.fresh' (Kd.N_lt (by (with_reducible repeat (first | apply Kd.N_alloc | apply Kd.N_drewN | apply Kd.N_drew)); exact HO_27.out)) k_ hk_.2.1), (Kd.freshB (g := gb101) (o := .cells #[.int .i64 a4_0, .int .i64 a4_1, .int .i64 a4_2, .int .i64 a4_3] 49 (0, 0)) (blk_o BK101.out) k_ hk_.2.1)⟩)) (below_size (by exact bl_g HB.out)))) (am (Kd.N_lower (Kd.N_mono (ok' := fun k_ => some k_ ≠ (v158 : Value).ownBlock ∧ some k_ ≠ (.slice Ao82 t129.length co82 : Value).ownBlock ∧ some k_ ≠ (u26 : Value).ownBlock ∧ some k_ ≠ (u27 : Value).ownBlock ∧ k_ ≠ gb101) (Kd.S_N (Kd.S_bound (Kd.S_apart' ho1 (Kd.S_typed ho0) (by decide)))) (fun k_ hk_ => ⟨hk_.1.2, (Kd.fresh' (Kd.R_lt (Kd.R_o HO_23.out)) k_ hk_.2.1), (Kd.fresh' (Kd.N_lt (by (with_reducible repeat (first | apply Kd.N_alloc | apply Kd.N_drewN | apply Kd.N_drew)); exact HO_26.out)) k_ hk_.2.1), (Kd.fresh' (Kd.N_lt (by (with_reducible repeat (first | apply Kd.N_alloc | apply Kd.N_drewN | apply Kd.N_drew)); exact HO_27.out)) k_ hk_.2.1), (Kd.freshB (g := gb101) (o := .cells #[.int .i64 a4_0, .int .i64 a4_1, .int .i64 a4_2, .int .i64 a4_3] 49 (0, 0)) (blk_o BK101.out) k_ hk_.2.1)⟩)) (below_size (by exact bl_g HB.out)))) (am (blk_below (blk_o BK101.out) hb)) (am (below_step (by exact bl_g HB.out) hb)) ?_; clear HO_23 HO_26 HO_27 BK101 HB; intro HO_23 HO_26 HO_27 HO159 HO161 BK101 HB; (try clear ho1)) | ((with_reducible refine gate_callee (f := 11) rfl ?_); refine goesL_ (some 177) rfl rfl Try.func11 (by kernel_rfl) rfl #[.int .i64 t157] rfl (by simp only [ml]; try rfl) ?_; (with_reducible refine (gangwaylaw14_num.calls t157 t162 _ A77.out).mono ?_); rintro e w' ⟨rfl, ⟨nd, rfl⟩⟩; refine ⟨_, rfl, ?_⟩; obtain ⟨Ao84, co84, eo84⟩ := Kd.N_slice HO159.out; subst eo84; obtain ⟨Ao85, co85, eo85⟩ := Kd.N_slice HO161.out; subst eo85; obtain ⟨Ao86, co86, eo86⟩ := Kd.N_slice HO_27.out; subst eo86; obtain ⟨Ao87, co87, eo87⟩ := Kd.N_slice HO_26.out; subst eo87) | (go_at_call 14; (with_reducible refine (gangwaylaw14_same.calls k2 _ _ t155 _ _ t156 _ _ x27_2 _ _ x26_2 true _ ?side1 ?side2 ?side3 ?side4 ?side5 ?side6 ?side7 ?side8 A79.out).mono ?_); (case side1 => exact Kd.C_o ((Kd.N_reads' HO159.out).2.2)); (case side2 => exact (Kd.N_reads' HO159.out).2.1); (case side3 => exact Kd.C_o ((Kd.N_reads' HO161.out).2.2)); (case side4 => exact (Kd.N_reads' HO161.out).2.1); (case side5 => exact Kd.C_o ((Kd.N_reads' HO_27.out).2.2)); (case side6 => exact (Kd.N_reads' HO_27.out).2.1); (case side7 => exact Kd.C_o ((Kd.N_reads' HO_26.out).2.2)); (case side8 => exact (Kd.N_reads' HO_26.out).2.1); rintro e w88 ⟨rfl, hb⟩; refine mv7 (am (Kd.R_below (Kd.R_o HO_23.out) hb)) (am (Kd.N_below (by (with_reducible repeat (first | apply Kd.N_alloc | apply Kd.N_drewN | apply Kd.N_drew)); exact HO_26.out) hb)) (am (Kd.N_below (by (with_reducible repeat (first | apply Kd.N_alloc | apply Kd.N_drewN | apply Kd.N_drew)); exact HO_27.out) hb)) (am (Kd.N_below (by (with_reducible repeat (first | apply Kd.N_alloc | apply Kd.N_drewN | apply Kd.N_drew)); exact HO159.out) hb)) (am (Kd.N_below (by (with_reducible repeat (first | apply Kd.N_alloc | apply Kd.N_drewN | apply Kd.N_drew)); exact HO161.out) hb)) (am (blk_below (blk_o BK101.out) hb)) (am (below_step (by exact bl_g HB.out) hb)) ?_; clear HO_23 HO_26 HO_27 HO159 HO161 BK101 HB; intro HO_23 HO_26 HO_27 HO159 HO161 BK101 HB) | (go_at_call 15; (with_reducible refine (gangwaylaw14_live.calls k2  t164 _ A81.out).mono ?_); rintro e w89 ⟨rfl, hb⟩; refine mv7 (am (Kd.R_below (Kd.R_o HO_23.out) hb)) (am (Kd.N_below (by (with_reducible repeat (first | apply Kd.N_alloc | apply Kd.N_drewN | apply Kd.N_drew)); exact HO_26.out) hb)) (am (Kd.N_below (by (with_reducible repeat (first | apply Kd.N_alloc | apply Kd.N_drewN | apply Kd.N_drew)); exact HO_27.out) hb)) (am (Kd.N_below (by (with_reducible repeat (first | apply Kd.N_alloc | apply Kd.N_drewN | apply Kd.N_drew)); exact HO159.out) hb)) (am (Kd.N_below (by (with_reducible repeat (first | apply Kd.N_alloc | apply Kd.N_drewN | apply Kd.N_drew)); exact HO161.out) hb)) (am (blk_below (blk_o BK101.out) hb)) (am (below_step (by exact bl_g HB.out) hb)) ?_; clear HO_23 HO_26 HO_27 HO159 HO161 BK101 HB; intro HO_23 HO_26 HO_27 HO159 HO161 BK101 HB))
      go_ret
      exact ⟨rfl, by exact bl_g HB.out⟩
     rw [if_pos c52] at H
     have c52b0 : decide (x28_2 < (l0.length : Int)) = true := decide_eq_true c52
     clear c52
     by_cases c53 : 0 ≤ x28_2
     rotate_left
     ·
      rw [if_neg c53] at H
      exact absurd H (by simp)
     rw [if_pos c53] at H
     have c53b0 : decide (0 ≤ x28_2) = true := decide_eq_true c53
     clear c53
     replace H := Option.bind_eq_some_iff.mp H
     obtain ⟨t140, A540, H⟩ := H
     replace H : (if x27_2.length < 4398046511104 then (gangwaylaw14_EhframeBack.l1 k2 l0 l1 a2 t129 x26_2 (x27_2 ++ [(⟨(rd_T43 l0 x28_2).f0, t140⟩ : S43)]) x28_2 0) else (none)) = some r := H
     have A54 := am A540
     clear A540
     by_cases c55 : x27_2.length < 4398046511104
     rotate_left
     ·
      rw [if_neg c55] at H
      exact absurd H (by simp)
     rw [if_pos c55] at H
     have LMc55 := am c55
     clear c55
     obtain ⟨y143, hy143⟩ : ∃ y_ : List (S43), y_ = (x27_2 ++ [(⟨(rd_T43 l0 x28_2).f0, t140⟩ : S43)]) := ⟨_, rfl⟩
     replace H : (gangwaylaw14_EhframeBack.l1 k2 l0 l1 a2 t129 x26_2 y143 x28_2 0) = some r := by first | (rw [hy143]; with_reducible exact H) | (have H2_ := (Option.bind_some _ _).symm.trans H; rw [hy143]; with_reducible exact H2_)
     have Ny143 := am hy143
     clear hy143
     have H' := am H
     clear H
     try go_wp2
     have n0_ := am (Kd.R_drew HO_23.out)
     have n1_ := am (Kd.N_drew HO_26.out)
     have n2_ := am (Kd.N_drew HO_27.out)
     have n3_ := am (blk_drew BK101.out)
     have n4_ := am (below_drew1 HB.out)
     clear HO_23
     clear HO_26
     clear HO_27
     clear BK101
     clear HB
     have HO_23 := n0_
     have HO_26 := n1_
     have HO_27 := n2_
     have BK101 := n3_
     have HB := n4_
     clear n0_ n1_ n2_ n3_ n4_
     have p138 : 0 ≤ (x28_2 : Int) := od
     have q138 : x28_2 < (l0.length : Int) := od
     obtain ⟨ad138, A138_1, c138_1, e138, hx138_0, hx138_1, hl138_1, hi138_1⟩ := at_T43 HR0.out x28_2 p138 q138
     have hw138_1 := hx138_1
     have hw138_0 := hx138_0
     cases e138
     replace hx138_0 := oc HB.out hx138_0
     replace hx138_1 := oc HB.out hx138_1
     have HR138_1 := am hi138_1
     have HC138_1 := am hl138_1
     clear hi138_1 hl138_1
     replace p138 := eq_true p138
     replace q138 := eq_true q138
     have p139 : 0 ≤ (x28_2 : Int) := od
     have q139 : x28_2 < (l0.length : Int) := od
     obtain ⟨ad139, A139_1, c139_1, e139, hx139_0, hx139_1, hl139_1, hi139_1⟩ := at_T43 HR0.out x28_2 p139 q139
     have hw139_1 := hx139_1
     have hw139_0 := hx139_0
     obtain rfl : ad138 = ad139 := (by injection e139)
     replace hx139_0 := oc HB.out hx139_0
     replace hx139_1 := oc HB.out hx139_1
     have HR139_1 := am hi139_1
     have HC139_1 := am hl139_1
     clear hi139_1 hl139_1
     replace p139 := eq_true p139
     replace q139 := eq_true q139
     have ea_ := Option.some.inj (hx138_1.symm.trans hx139_1)
     injection ea_ with ea_ en_ ec_
     subst ea_
     subst ec_
     clear en_
     refine start_ (n := 16) (S := fun w' => w'.cell? (ad138.add ((x28_2).toNat * 2)) = some (.int .i64 ((rd_T43 l0 x28_2).f0)) ∧ w'.cell? ⟨(ad138.add ((x28_2).toNat * 2)).block, (ad138.add ((x28_2).toNat * 2)).off + 1, none⟩ = some (.slice A138_1 ((rd_T43 l0 x28_2).f1).length c138_1) ∧ w'.cell? (ad138.add ((x28_2).toNat * 2)) = some (.int .i64 ((rd_T43 l0 x28_2).f0)) ∧ w'.cell? ⟨(ad138.add ((x28_2).toNat * 2)).block, (ad138.add ((x28_2).toNat * 2)).off + 1, none⟩ = some (.slice A138_1 ((rd_T43 l0 x28_2).f1).length c138_1)) (ds := []) (bm 16 0) (by kernel_rfl) rfl rfl ⟨(oc HB.out hw138_0 :), (oc HB.out hw138_1 :), (oc HB.out hw139_0 :), (oc HB.out hw139_1 :)⟩ (fun hHeld => ?_); refine with_tabW gangwaylaw14_EhframeBack.tab16 gangwaylaw14_EhframeBack.bits16 (fun HT_ HW_ => ?_)
     generalize wr.drew = w56 at HO_23 HO_26 HO_27 BK101 HB HR138_1 HR139_1 hx138_0 hx138_1 hx139_0 hx139_1 hHeld ⊢
     refine pure_ (i := 0) (N := some 129) (v := ?_) (a' := ?_) (bm 16 1) rfl rfl (any_of HT_.out (by kernel_rfl)) (fun _ _ _ h => h) (Or.inl ⟨by rfl, ?_⟩) ?_ ?_
     rotate_left
     ·
      intro w'
      go_simp
      with_reducible rfl
     rotate_left
     ·
      simp only [pz]
      rfl
     refine pure_ (i := 1) (N := some 130) (v := ?_) (a' := ?_) (bm 16 3) rfl rfl (any_of HT_.out (by kernel_rfl)) (fun _ _ _ h => h) (Or.inl ⟨by rfl, ?_⟩) ?_ ?_
     rotate_left
     ·
      intro w'
      go_simp
      with_reducible rfl
     rotate_left
     ·
      simp only [pz]
      rfl
     refine pure_ (i := 2) (N := some 131) (v := ?_) (a' := ?_) (bm 16 7) rfl rfl (any_of HT_.out (by kernel_rfl)) (fun _ _ _ h => h) (Or.inl ⟨by rfl, ?_⟩) ?_ ?_
     rotate_left
     ·
      intro w'
      go_simp
      with_reducible rfl
     rotate_left
     ·
      simp only [pz]
      rfl
     refine pure_ (i := 3) (N := some 132) (v := ?_) (a' := ?_) (bm 16 15) rfl rfl (any_of HT_.out (by kernel_rfl)) (fun _ _ _ h => h) (Or.inl ⟨by rfl, ?_⟩) ?_ ?_
     rotate_left
     ·
      intro w'
      go_simp
      with_reducible rfl
     rotate_left
     ·
      simp only [pz]
      rfl
     refine pure_ (i := 4) (N := some 133) (v := ?_) (a' := ?_) (bm 16 31) rfl rfl (any_of HT_.out (by kernel_rfl)) (fun _ _ _ h => h) (Or.inl ⟨by rfl, ?_⟩) ?_ ?_
     rotate_left
     ·
      intro w'
      go_simp
      with_reducible rfl
     rotate_left
     ·
      simp only [pz]
      rfl
     refine pure_ (i := 6) (N := some 135) (v := ?_) (a' := ?_) (bm 16 95) rfl rfl (any_of HT_.out (by kernel_rfl)) (fun _ _ _ h => h) (Or.inl ⟨by rfl, ?_⟩) ?_ ?_
     rotate_left
     ·
      intro w'
      go_simp
      with_reducible rfl
     rotate_left
     ·
      simp only [pz]
      rfl
     refine pure_ (i := 7) (N := some 136) (v := ?_) (a' := ?_) (bm 16 223) rfl rfl (any_of HT_.out (by kernel_rfl)) (fun _ _ _ h => h) (Or.inl ⟨by rfl, ?_⟩) ?_ ?_
     rotate_left
     ·
      intro w'
      go_simp
      with_reducible rfl
     rotate_left
     ·
      simp only [pz]
      rfl
     refine pure_ (i := 8) (N := some 137) (v := ?_) (a' := ?_) (bm 16 479) rfl rfl (any_of HT_.out (by kernel_rfl)) (fun _ _ _ h => h) (Or.inl ⟨by rfl, ?_⟩) ?_ ?_
     rotate_left
     ·
      intro w'
      go_simp
      with_reducible rfl
     rotate_left
     ·
      simp only [pz]
      rfl
     refine pure_ (i := 9) (N := some 138) (v := ?_) (a' := ?_) (bm 16 991) rfl rfl (any_of HT_.out (by kernel_rfl)) (fun _ _ _ h => h) (Or.inl ⟨by rfl, ?_⟩) ?_ ?_
     rotate_left
     ·
      intro w'
      go_simp
      with_reducible rfl
     rotate_left
     ·
      simp only [pz]
      rfl
     refine take_ (i := 5) (N := some 134) (v := ?_) (a' := ?_) (bm 16 1023) rfl rfl (take_ofW HT_.out HW_.out (by kernel_rfl)) (fun _ _ _ h => h) (Or.inl ⟨by rfl, ?_⟩) hHeld ?_ ?_
     rotate_left
     ·
      rintro w' ⟨s0, s1, s2, s3⟩
      go_simp
      with_reducible rfl
     rotate_left
     ·
      simp only [pz]
      rfl
     refine take_ (i := 10) (N := some 139) (v := ?_) (a' := ?_) (bm 16 2047) rfl rfl (take_ofW HT_.out HW_.out (by kernel_rfl)) (fun _ _ _ h => h) (Or.inl ⟨by rfl, ?_⟩) hHeld ?_ ?_
     rotate_left
     ·
      rintro w' ⟨s0, s1, s2, s3⟩
      go_simp
      with_reducible rfl
     rotate_left
     ·
      simp only [pz]
      rfl
     refine one_ (i := 11) (N := some 140) (bm 16 4095) rfl rfl (one_of HT_.out (by kernel_rfl)) (by decide) (fun K hK => ?_)
     refine goes_ Try.func20 (by kernel_rfl) rfl #[.slice A138_1 ((rd_T43 l0 x28_2).f1).length c138_1] (by rfl) rfl rfl (by simp only [ml]; try rfl) ?_
     with_reducible refine (gangwaylaw14_trimmed.calls k2 (fun k_ => k_ < w.heap.size) _ _ ((rd_T43 l0 x28_2).f1) t140 _ ?side1 A54.out).mono ?_
     (case side1 => exact Kd.V_mk HC139_1.out (Kd.F_below (Kd.C_F k97_heap HR139_1.out) (by exact bl_g HB.out)))
     rintro e w57 ⟨v141, rfl, ho0, hb⟩
     refine ⟨_, rfl, ?_⟩
     have n0_ := am (Kd.R_below (Kd.R_o HO_23.out) hb)
     have n1_ := am (Kd.N_below (by (with_reducible repeat (first | apply Kd.N_alloc | apply Kd.N_drewN | apply Kd.N_drew)); exact HO_26.out) hb)
     have n2_ := am (Kd.N_below (by (with_reducible repeat (first | apply Kd.N_alloc | apply Kd.N_drewN | apply Kd.N_drew)); exact HO_27.out) hb)
     have n3_ := am (Kd.V_lower (Kd.V_mono (ok' := fun k_ => some k_ ≠ (v132 : Value).ownBlock ∧ some k_ ≠ (u26 : Value).ownBlock ∧ some k_ ≠ (u27 : Value).ownBlock ∧ k_ ≠ gb101) ho0 (fun k_ hk_ => ⟨Or.elim hk_ (fun hs_ => fun e_ => Nat.not_le.2 hs_ (Kd.R_base HO_23.out k_ e_.symm)) (fun hn_ => (Kd.fresh' (Kd.R_lt (Kd.R_o HO_23.out)) k_ hn_)), Or.elim hk_ (fun hs_ => fun e_ => Nat.not_le.2 hs_ (Kd.N_base HO_26.out k_ e_.symm)) (fun hn_ => (Kd.fresh' (Kd.N_lt (by (with_reducible repeat (first | apply Kd.N_alloc | apply Kd.N_drewN | apply Kd.N_drew)); exact HO_26.out)) k_ hn_)), Or.elim hk_ (fun hs_ => fun e_ => Nat.not_le.2 hs_ (Kd.N_base HO_27.out k_ e_.symm)) (fun hn_ => (Kd.fresh' (Kd.N_lt (by (with_reducible repeat (first | apply Kd.N_alloc | apply Kd.N_drewN | apply Kd.N_drew)); exact HO_27.out)) k_ hn_)), Or.elim hk_ (fun hs_ => fun e_ => Nat.not_le.2 hs_ (by rw [e_]; exact GW101.out)) (fun hn_ => (Kd.freshB (g := gb101) (o := .cells #[.int .i64 a4_0, .int .i64 a4_1, .int .i64 a4_2, .int .i64 a4_3] 49 (0, 0)) (blk_o BK101.out) k_ hn_))⟩)) (below_size (by exact bl_g HB.out)))
     have n4_ := am (blk_below (blk_o BK101.out) hb)
     have n5_ := am (below_step (by exact bl_g HB.out) hb)
     clear HO_23
     clear HO_26
     clear HO_27
     clear BK101
     clear HB
     have HO_23 := n0_
     have HO_26 := n1_
     have HO_27 := n2_
     have HO142 := n3_
     have BK101 := n4_
     have HB := n5_
     clear n0_ n1_ n2_ n3_ n4_ n5_
     (try clear hb)
     (try clear hb2)
     (try clear hk)
     (try clear hi)
     (try clear ho0)
     obtain ⟨Ao58, co58, eo58⟩ := Kd.V_slice HO142.out
     (first | subst eo58 | (injection eo58 with f1_ f2_ f3_; have f4_ := f1_.symm; have f5_ := f3_.symm; clear f1_ f2_ f3_; subst f4_; subst f5_))
     refine hK.out _ _ ⟨(oc HB.out hw138_0 :), (oc HB.out hw138_1 :), (oc HB.out hw139_0 :), (oc HB.out hw139_1 :)⟩ (fun hHeld => ?_)
     clear hK K
     refine norm_ (a' := ?_) ?_ ?_
     rotate_left
     ·
      show Act.put _ (some 140) _ = _
      simp only [pz]
      rfl
     refine pure_ (i := 12) (N := some 141) (v := ?_) (a' := ?_) (bm 16 8191) rfl rfl (any_of HT_.out (by kernel_rfl)) (fun _ _ _ h => h) (Or.inl ⟨by rfl, ?_⟩) ?_ ?_
     rotate_left
     ·
      intro w'
      go_simp
      with_reducible rfl
     rotate_left
     ·
      simp only [pz]
      rfl
     refine one_ (i := 13) (N := some 142) (bm 16 16383) rfl rfl (one_of HT_.out (by kernel_rfl)) (by decide) (fun K hK => ?_)
     refine value_ (w1 := ?_) (v := ?_) (by rfl) rfl ?_ ?_
     rotate_left 2
     ·
      go_simp
      constructor
      ·
       rfl
      rfl
     refine hK.out _ _ ⟨(World.cell?_alloc_lt _ _ _ (World.block_lt_of_cell? _ _ ((oc HB.out hw138_0 :)))).trans ((oc HB.out hw138_0 :)), (World.cell?_alloc_lt _ _ _ (World.block_lt_of_cell? _ _ ((oc HB.out hw138_1 :)))).trans ((oc HB.out hw138_1 :)), (World.cell?_alloc_lt _ _ _ (World.block_lt_of_cell? _ _ ((oc HB.out hw139_0 :)))).trans ((oc HB.out hw139_0 :)), (World.cell?_alloc_lt _ _ _ (World.block_lt_of_cell? _ _ ((oc HB.out hw139_1 :)))).trans ((oc HB.out hw139_1 :))⟩ (fun hHeld => ?_)
     clear hK K
     refine norm_ (a' := ?_) ?_ ?_
     rotate_left
     ·
      show Act.put _ (some 142) _ = _
      simp only [pz]
      rfl
     refine one_ (i := 14) (N := some 143) (bm 16 32767) rfl rfl (one_of HT_.out (by kernel_rfl)) (by decide) (fun K hK => ?_)
     refine Kd.N_append_step k43 (w0 := w) w.heap.size (by rfl) (.tmp 129) (.tmp 142) 22 43 (.agg #[(.int .i64 0), (.slice none 0 0)]) 32 rfl Try.underlying22 info43 rfl (by decide) (by omega) u27 x27_2 (⟨(rd_T43 l0 x28_2).f0, t140⟩ : S43) [.int .i64 ((rd_T43 l0 x28_2).f0), .slice Ao58 t140.length co58] (fun k_ => some k_ ≠ (v132 : Value).ownBlock ∧ some k_ ≠ (u26 : Value).ownBlock ∧ k_ ≠ gb101) (fun k_ => ((fun k_ => some k_ ≠ (v132 : Value).ownBlock ∧ some k_ ≠ (u26 : Value).ownBlock ∧ k_ ≠ gb101)) k_ ∧ some k_ ≠ (u27 : Value).ownBlock) rfl rfl ?aP (fun _ hk => hk) ?aF ?aO ?aB ?aS ?aL ?_
     (case aP => exact (k43_mkF _ _ (⟨(rd_T43 l0 x28_2).f0, t140⟩ : S43) (Kd.V_reads' (Kd.V_mono (ok' := (fun k_ => ((fun k_ => some k_ ≠ (v132 : Value).ownBlock ∧ some k_ ≠ (u26 : Value).ownBlock ∧ k_ ≠ gb101)) k_ ∧ some k_ ≠ (u27 : Value).ownBlock)) (HO142.out) (fun k_ hk => ⟨⟨hk.1, ⟨hk.2.1, hk.2.2.2⟩⟩, hk.2.2.1⟩))).2.1 (Kd.V_F (Kd.V_mono (ok' := (fun k_ => ((fun k_ => some k_ ≠ (v132 : Value).ownBlock ∧ some k_ ≠ (u26 : Value).ownBlock ∧ k_ ≠ gb101)) k_ ∧ some k_ ≠ (u27 : Value).ownBlock)) (HO142.out) (fun k_ hk => ⟨⟨hk.1, ⟨hk.2.1, hk.2.2.2⟩⟩, hk.2.2.1⟩)))))
     (case aB => exact (by exact bl_g HB.out))
     (case aF => exact (fun k_ hk => ⟨Kd.fresh' (Kd.R_lt (Kd.R_o HO_23.out)) k_ hk, Kd.fresh' (Kd.N_lt (by (with_reducible repeat (first | apply Kd.N_alloc | apply Kd.N_drewN | apply Kd.N_drew)); exact HO_26.out)) k_ hk, Kd.freshB (g := gb101) (o := .cells #[.int .i64 a4_0, .int .i64 a4_1, .int .i64 a4_2, .int .i64 a4_3] 49 (0, 0)) (blk_o BK101.out) k_ hk⟩))
     (case aO => exact (by (with_reducible repeat (first | apply Kd.N_alloc | apply Kd.N_drewN | apply Kd.N_drew)); exact HO_27.out))
     (case aS => exact (below_size (by exact bl_g HB.out)))
     (case aL => have := LMc55.out; omega)
     intro v144 w59 ho hb hg hat
     rw [← Ny143.out] at ho
     have n0_ := am (Kd.R_over' (Kd.R_o HO_23.out) (Kd.N_typed (by (with_reducible repeat (first | apply Kd.N_alloc | apply Kd.N_drewN | apply Kd.N_drew)); exact HO_27.out)) (by decide) hg)
     have n1_ := am (Kd.N_afterv (ok := (fun k_ => some k_ ≠ (v132 : Value).ownBlock ∧ k_ ≠ gb101)) (by (with_reducible repeat (first | apply Kd.N_alloc | apply Kd.N_drewN | apply Kd.N_drew)); exact Kd.N_mono HO_26.out (fun _ hk => ⟨⟨hk.1, hk.2.2⟩, hk.2.1⟩)) hg hat)
     have n2_ := am (blk_grown (g := gb101) (o := .cells #[.int .i64 a4_0, .int .i64 a4_1, .int .i64 a4_2, .int .i64 a4_3] 49 (0, 0)) (blk_o BK101.out) hg (Kd.N_ne HO_27.out BK101.out (by decide)))
     have n3_ := am (Kd.V_afterv (ok := (fun k_ => some k_ ≠ (v132 : Value).ownBlock ∧ some k_ ≠ (u26 : Value).ownBlock ∧ k_ ≠ gb101)) (by (with_reducible repeat (first | apply Kd.V_alloc | apply Kd.V_drewN | apply Kd.V_drew)); exact Kd.V_mono HO142.out (fun _ hk => ⟨⟨hk.1, ⟨hk.2.1, hk.2.2.2⟩⟩, hk.2.2.1⟩)) hg hat)
     have n4_ := am (hb)
     have n5_ := am (ho)
     clear HO_23
     clear HO_26
     clear BK101
     clear HO142
     clear HB
     clear HO_27
     have HO_23 := n0_
     have HO_26 := n1_
     have BK101 := n2_
     have HO142 := n3_
     have HB := n4_
     have HO145 := n5_
     clear n0_ n1_ n2_ n3_ n4_ n5_
     clear ho hb hg hat
     refine hK.out _ _ ⟨(oc HB.out hw138_0 :), (oc HB.out hw138_1 :), (oc HB.out hw139_0 :), (oc HB.out hw139_1 :)⟩ (fun hHeld => ?_)
     clear hK K
     refine norm_ (a' := ?_) ?_ ?_
     rotate_left
     ·
      show Act.put _ (some 143) _ = _
      simp only [pz]
      rfl
     refine pure_ (i := 15) (N := some 27) (v := ?_) (a' := ?_) (bm 16 65535) rfl rfl (any_of HT_.out (by kernel_rfl)) (fun _ _ _ h => h) (Or.inl ⟨by rfl, ?_⟩) ?_ ?_
     rotate_left
     ·
      intro w'
      go_simp
      with_reducible rfl
     rotate_left
     ·
      simp only [pz]
      rfl
     refine done_ (done_of HT_.out (by kernel_rfl)) ?_
     try go_wp2
     go_loopg [26, 29] k2 (fun kq v26 v29 w' => ∃ (x26_3 : List (S61)) (x29_3 : Int), v29 = .int .i64 x29_3 ∧ Aside0 (gangwaylaw14_EhframeBack.l1 kq l0 l1 a2 t129 x26_3 y143 x28_2 x29_3 = some r) ∧ Aside0 (kq ≤ k2) ∧ Aside0 (Kd.R (Kd.int .u8) 5 w' w.heap.size (fun _ => True) v132 t129) ∧ Aside0 (Kd.N k61 61 w' w.heap.size (fun k_ => some k_ ≠ (v132 : Value).ownBlock ∧ some k_ ≠ (v144 : Value).ownBlock ∧ k_ ≠ gb101) v26 x26_3) ∧ Aside0 (Kd.N k43 43 w' w.heap.size (fun k_ => some k_ ≠ (v132 : Value).ownBlock ∧ some k_ ≠ (v26 : Value).ownBlock ∧ k_ ≠ gb101) v144 y143) ∧ Aside0 (w'.heap[gb101]? = some (.cells #[.int .i64 a4_0, .int .i64 a4_1, .int .i64 a4_2, .int .i64 a4_3] 49 (0, 0))) ∧ Aside0 (Below w.heap.size w w'))
     case atStart => exact ⟨(x26_2), (0), (by first | rfl | (simp; done) | (simp [*]; done)), H', ⟨Nat.le_refl _⟩, ⟨by (with_reducible repeat (first | apply Kd.R_alloc | apply Kd.R_drewN | apply Kd.R_drew)); exact HO_23.out⟩, ⟨by (with_reducible repeat (first | apply Kd.N_alloc | apply Kd.N_drewN | apply Kd.N_drew)); exact Kd.N_mono HO_26.out (fun _ hk => ⟨hk.1.1, ⟨hk.2, hk.1.2⟩⟩)⟩, ⟨by (with_reducible repeat (first | apply Kd.N_alloc | apply Kd.N_drewN | apply Kd.N_drew)); exact HO145.out⟩, ⟨by (with_reducible repeat (first | refine blk_drewN ?_ _ | refine blk_drew ?_ | refine blk_alloc ?_ _)); exact BK101.out⟩, ⟨by exact bl_g HB.out⟩⟩
     case round =>
      clear H'
      try clear c1
      try clear p1
      try clear q1
      try clear hx1
      try clear c2
      try clear p2
      try clear c4
      try clear c5
      try clear c6
      try clear p6
      try clear c8
      try clear c9
      try clear c11
      try clear c13
      try clear p13
      try clear q13
      try clear hx13
      try clear c14
      try clear c14b0
      try clear c14b1
      try clear c15
      try clear c16
      try clear c17
      try clear c18
      try clear c19
      try clear c19b0
      try clear c20
      try clear c21
      try clear c21b0
      try clear c21b1
      try clear c22
      try clear c22b0
      try clear c22b1
      try clear c23
      try clear c23b0
      try clear c23b1
      try clear c47
      try clear c47b0
      try clear c47b1
      try clear c52
      try clear c52b0
      try clear c53
      try clear c53b0
      try clear c55
      try clear hcz12_0
      try clear hcz12_1
      try clear hcz12_2
      try clear hcz12_3
      try clear hcz30_0
      try clear hcz30_1
      try clear hcz30_2
      try clear hcz30_3
      try clear hcz33_0
      try clear hcz33_1
      try clear hcz33_2
      try clear hcz33_3
      try clear hcz40_0
      try clear hcz40_1
      try clear hcz40_2
      try clear hcz40_3
      try clear hcz43_0
      try clear hcz43_1
      try clear hcz43_2
      try clear hcz43_3
      try clear hfz12_0
      try clear hfz12_1
      try clear hfz12_2
      try clear hfz12_3
      try clear hfz30_0
      try clear hfz30_1
      try clear hfz30_2
      try clear hfz30_3
      try clear hfz33_0
      try clear hfz33_1
      try clear hfz33_2
      try clear hfz33_3
      try clear hfz40_0
      try clear hfz40_1
      try clear hfz40_2
      try clear hfz40_3
      try clear hfz43_0
      try clear hfz43_1
      try clear hfz43_2
      try clear hfz43_3
      try clear hx138_0
      try clear hx138_1
      try clear hx139_0
      try clear hx139_1
      try clear p138
      try clear p139
      try clear p2
      try clear p6
      try clear q138
      try clear q139
      obtain ⟨x26_3, x29_3, rfl, HA, HK3, HO_23, HO_26, HO_27, BK101, HB⟩ := hrel
      cases gk with
      | zero => exact absurd HA.out (by simp [gangwaylaw14_EhframeBack.l1])
      | succ k3 =>
       have H := HA.out
       clear HA
       simp only [gangwaylaw14_EhframeBack.l1] at H
       by_cases c60 : x29_3 < (l1.length : Int)
       rotate_left
       ·
        rw [if_neg c60] at H
        have c60b0 : decide (x29_3 < (l1.length : Int)) = false := decide_eq_false c60
        clear c60
        have H' := am H
        clear H
        go_wp2
        go_roundg k3
        case measure => have := HJ9.out; have := HK2.out; have := HK3.out; omega
        case rel => exact ⟨(x26_3), (y143), (wrap64 (x28_2 + 1)), (by first | rfl | (simp; done) | (simp [*]; done)), H', ⟨by have := HJ9.out; have := HK2.out; have := HK3.out; omega⟩, ⟨by (with_reducible repeat (first | apply Kd.R_alloc | apply Kd.R_drewN | apply Kd.R_drew)); exact HO_23.out⟩, ⟨by (with_reducible repeat (first | apply Kd.N_alloc | apply Kd.N_drewN | apply Kd.N_drew)); exact HO_26.out⟩, ⟨by (with_reducible repeat (first | apply Kd.N_alloc | apply Kd.N_drewN | apply Kd.N_drew)); exact HO_27.out⟩, ⟨by (with_reducible repeat (first | refine blk_drewN ?_ _ | refine blk_drew ?_ | refine blk_alloc ?_ _)); exact BK101.out⟩, ⟨by exact bl_g HB.out⟩⟩
       rw [if_pos c60] at H
       have c60b0 : decide (x29_3 < (l1.length : Int)) = true := decide_eq_true c60
       clear c60
       by_cases c61 : 0 ≤ x29_3
       rotate_left
       ·
        rw [if_neg c61] at H
        exact absurd H (by simp)
       rw [if_pos c61] at H
       have c61b0 : decide (0 ≤ x29_3) = true := decide_eq_true c61
       clear c61
       by_cases c62 : ((rd_T61 l1 x29_3).f0) = x28_2
       rotate_left
       ·
        rw [if_neg c62] at H
        have c62b0 : (((rd_T61 l1 x29_3).f0) == x28_2) = false := beq_eq_false_iff_ne.mpr c62
        have c62b1 : (((rd_T61 l1 x29_3).f0) != x28_2) = true := bne_iff_ne.mpr c62
        have H' := am H
        clear H
        have p146 : 0 ≤ (x29_3 : Int) := od
        have q146 : x29_3 < (l1.length : Int) := od
        obtain ⟨ad146, A146_3, c146_3, e146, hx146_0, hx146_1, hx146_2, hx146_3, hl146_3, hi146_3⟩ := at_T61 HR1.out x29_3 p146 q146
        cases e146
        replace hx146_0 := oc HB.out hx146_0
        replace hx146_1 := oc HB.out hx146_1
        replace hx146_2 := oc HB.out hx146_2
        replace hx146_3 := oc HB.out hx146_3
        have HR146_3 := am hi146_3
        have HC146_3 := am hl146_3
        clear hi146_3 hl146_3
        replace p146 := eq_true p146
        replace q146 := eq_true q146
        go_wp2
        go_roundg k3
        case measure => have := HJ9.out; have := HK2.out; have := HK3.out; omega
        case rel => exact ⟨(x26_3), (wrap64 (x29_3 + 1)), (by first | rfl | (simp; done) | (simp [*]; done)), H', ⟨by have := HJ9.out; have := HK2.out; have := HK3.out; omega⟩, ⟨by (with_reducible repeat (first | apply Kd.R_alloc | apply Kd.R_drewN | apply Kd.R_drew)); exact HO_23.out⟩, ⟨by (with_reducible repeat (first | apply Kd.N_alloc | apply Kd.N_drewN | apply Kd.N_drew)); exact HO_26.out⟩, ⟨by (with_reducible repeat (first | apply Kd.N_alloc | apply Kd.N_drewN | apply Kd.N_drew)); exact HO_27.out⟩, ⟨by (with_reducible repeat (first | refine blk_drewN ?_ _ | refine blk_drew ?_ | refine blk_alloc ?_ _)); exact BK101.out⟩, ⟨by exact bl_g HB.out⟩⟩
       rw [if_pos c62] at H
       have c62b0 : (((rd_T61 l1 x29_3).f0) == x28_2) = true := beq_iff_eq.mpr c62
       have c62b1 : (((rd_T61 l1 x29_3).f0) != x28_2) = false := bne_eq_false_iff_eq.mpr c62
       clear c62
       replace H := Option.bind_eq_some_iff.mp H
       obtain ⟨t149, A630, H⟩ := H
       replace H : (if x26_3.length < 2932031007402 then (gangwaylaw14_EhframeBack.l1 k3 l0 l1 a2 t129 (x26_3 ++ [(⟨(rd_T61 l1 x29_3).f0, (rd_T61 l1 x29_3).f1, (rd_T61 l1 x29_3).f2, t149⟩ : S61)]) y143 x28_2 (wrap64 (x29_3 + 1))) else (none)) = some r := H
       have A63 := am A630
       clear A630
       by_cases c64 : x26_3.length < 2932031007402
       rotate_left
       ·
        rw [if_neg c64] at H
        exact absurd H (by simp)
       rw [if_pos c64] at H
       have LMc64 := am c64
       clear c64
       obtain ⟨y152, hy152⟩ : ∃ y_ : List (S61), y_ = (x26_3 ++ [(⟨(rd_T61 l1 x29_3).f0, (rd_T61 l1 x29_3).f1, (rd_T61 l1 x29_3).f2, t149⟩ : S61)]) := ⟨_, rfl⟩
       replace H : (gangwaylaw14_EhframeBack.l1 k3 l0 l1 a2 t129 y152 y143 x28_2 (wrap64 (x29_3 + 1))) = some r := by first | (rw [hy152]; with_reducible exact H) | (have H2_ := (Option.bind_some _ _).symm.trans H; rw [hy152]; with_reducible exact H2_)
       have Ny152 := am hy152
       clear hy152
       have H' := am H
       clear H
       have p146 : 0 ≤ (x29_3 : Int) := od
       have q146 : x29_3 < (l1.length : Int) := od
       obtain ⟨ad146, A146_3, c146_3, e146, hx146_0, hx146_1, hx146_2, hx146_3, hl146_3, hi146_3⟩ := at_T61 HR1.out x29_3 p146 q146
       cases e146
       replace hx146_0 := oc HB.out hx146_0
       replace hx146_1 := oc HB.out hx146_1
       replace hx146_2 := oc HB.out hx146_2
       replace hx146_3 := oc HB.out hx146_3
       have HR146_3 := am hi146_3
       have HC146_3 := am hl146_3
       clear hi146_3 hl146_3
       replace p146 := eq_true p146
       replace q146 := eq_true q146
       have p147 : 0 ≤ (x29_3 : Int) := od
       have q147 : x29_3 < (l1.length : Int) := od
       obtain ⟨ad147, A147_3, c147_3, e147, hx147_0, hx147_1, hx147_2, hx147_3, hl147_3, hi147_3⟩ := at_T61 HR1.out x29_3 p147 q147
       obtain rfl : ad146 = ad147 := (by injection e147)
       replace hx147_0 := oc HB.out hx147_0
       replace hx147_1 := oc HB.out hx147_1
       replace hx147_2 := oc HB.out hx147_2
       replace hx147_3 := oc HB.out hx147_3
       have HR147_3 := am hi147_3
       have HC147_3 := am hl147_3
       clear hi147_3 hl147_3
       replace p147 := eq_true p147
       replace q147 := eq_true q147
       have ea_ := Option.some.inj (hx146_3.symm.trans hx147_3)
       injection ea_ with ea_ en_ ec_
       subst ea_
       subst ec_
       clear en_
       go_wp2_with (first | ((with_reducible refine gate_dst (N := 30) rfl ?_); (try (refine gate_guard (by rfl) ?_; dsimp only)); refine box_event ?hg (N := 30) ?hd (cs := #[.int .i64 0, .int .i64 0, .int .i64 0, .slice none 0 0]) (t := 61) ?hr ?_; (case hd => rfl); (case hg => rfl); (case hr => go_simp; try rfl); intro gb148 hg w65 hbox hb; refine mv9 (am (Kd.R_below (Kd.R_o HO_23.out) hb)) (am (Kd.N_below (Kd.N_elderB (by (with_reducible repeat (first | apply Kd.N_alloc | apply Kd.N_drewN | apply Kd.N_drew)); exact HO_26.out) gb148 (Nat.le_of_eq hg.symm)) hb)) (am (Kd.N_below (Kd.N_elderB (by (with_reducible repeat (first | apply Kd.N_alloc | apply Kd.N_drewN | apply Kd.N_drew)); exact HO_27.out) gb148 (Nat.le_of_eq hg.symm)) hb)) (am (blk_below (blk_o BK101.out) hb)) (am (below_step (by exact bl_g HB.out) hb)) (am (hbox)) (lei (by rw [hg]; exact (below_size (by exact bl_g HB.out)) : w.heap.size ≤ gb148)) (am ((by rw [hg]; exact Nat.ne_of_lt (blk_lt (g := gb101) (o := .cells #[.int .i64 a4_0, .int .i64 a4_1, .int .i64 a4_2, .int .i64 a4_3] 49 (0, 0)) (blk_o BK101.out)) : gb101 ≠ gb148))) (am ((by rw [hg]; exact Nat.ne_of_gt (blk_lt (g := gb101) (o := .cells #[.int .i64 a4_0, .int .i64 a4_1, .int .i64 a4_2, .int .i64 a4_3] 49 (0, 0)) (blk_o BK101.out)) : gb148 ≠ gb101))) ?_; clear HO_23 HO_26 HO_27 BK101 HB; intro HO_23 HO_26 HO_27 BK101 HB BK148 GW148 NB101_148 NB148_101; have GE148 := GW148; clear hb hbox hg; have hnb66 := NB148_101.out; have hnc66 := NB101_148.out; obtain ⟨hcz67_0, hcz67_1, hcz67_2, hcz67_3, hfz67_0, hfz67_1, hfz67_2, hfz67_3⟩ := cells4 BK148.out) | ((with_reducible refine gate_store (t := 61) (p := 30) rfl ?_); refine store_event (t := 61) (p := 30) (v := ?vo_w68) (w1 := ((((w65.setCell ⟨gb148, 0, none⟩ (.int .i64 ((rd_T61 l1 x29_3).f0))).setCell ⟨gb148, 1, none⟩ (.int .i64 ((rd_T61 l1 x29_3).f1))).setCell ⟨gb148, 2, none⟩ (.int .i64 ((rd_T61 l1 x29_3).f2))).setCell ⟨gb148, 3, none⟩ (.slice A146_3 ((rd_T61 l1 x29_3).f3).length c146_3))) ?hg ?ho ?hn ?hr ?_; (case ho => rfl); (case hg => rfl); (case hn => rfl); (case hr => go_simp; try rfl); intro w68 hw; refine mv6 (⟨(by rw [hw]; exact (Kd.R_o (Kd.R_mono (Kd.R_far (p := ⟨gb148, 3, none⟩) (Kd.R_far (p := ⟨gb148, 2, none⟩) (Kd.R_far (p := ⟨gb148, 1, none⟩) (Kd.R_far (p := ⟨gb148, 0, none⟩) (Kd.R_types HO_23.out BK148.out (by decide)) (fun _ hk => hk.2) (.int .i64 ((rd_T61 l1 x29_3).f0))) (fun _ hk => hk.2) (.int .i64 ((rd_T61 l1 x29_3).f1))) (fun _ hk => hk.2) (.int .i64 ((rd_T61 l1 x29_3).f2))) (fun _ hk => hk.2) (.slice A146_3 ((rd_T61 l1 x29_3).f3).length c146_3)) (fun _ hk => trivial))))⟩ : Aside0 (Kd.R (Kd.int .u8) 5 w68 w.heap.size (fun _ => True) v132 t129)) (⟨(by rw [hw]; exact (by (with_reducible repeat (first | apply Kd.N_alloc | apply Kd.N_drewN | apply Kd.N_drew)); exact Kd.N_mono (Kd.N_far (p := ⟨gb148, 3, none⟩) (Kd.N_far (p := ⟨gb148, 2, none⟩) (Kd.N_far (p := ⟨gb148, 1, none⟩) (Kd.N_far (p := ⟨gb148, 0, none⟩) (Kd.N_mono HO_26.out (fun k_ hk => (⟨hk, hk.2⟩ : _ ∧ k_ ≠ gb148))) (fun _ hk => hk.2) (.int .i64 ((rd_T61 l1 x29_3).f0))) (fun _ hk => hk.2) (.int .i64 ((rd_T61 l1 x29_3).f1))) (fun _ hk => hk.2) (.int .i64 ((rd_T61 l1 x29_3).f2))) (fun _ hk => hk.2) (.slice A146_3 ((rd_T61 l1 x29_3).f3).length c146_3)) (fun _ hk => ⟨hk.1.1.1, ⟨hk.1.1.2.1, ⟨hk.1.1.2.2, hk.1.2⟩⟩⟩)))⟩ : Aside0 (Kd.N k61 61 w68 w.heap.size (fun k_ => some k_ ≠ (v132 : Value).ownBlock ∧ some k_ ≠ (v144 : Value).ownBlock ∧ k_ ≠ gb101 ∧ k_ ≠ gb148) u26 x26_3)) (⟨(by rw [hw]; exact (by (with_reducible repeat (first | apply Kd.N_alloc | apply Kd.N_drewN | apply Kd.N_drew)); exact Kd.N_mono (Kd.N_far (p := ⟨gb148, 3, none⟩) (Kd.N_far (p := ⟨gb148, 2, none⟩) (Kd.N_far (p := ⟨gb148, 1, none⟩) (Kd.N_far (p := ⟨gb148, 0, none⟩) (Kd.N_mono HO_27.out (fun k_ hk => (⟨hk, hk.2⟩ : _ ∧ k_ ≠ gb148))) (fun _ hk => hk.2) (.int .i64 ((rd_T61 l1 x29_3).f0))) (fun _ hk => hk.2) (.int .i64 ((rd_T61 l1 x29_3).f1))) (fun _ hk => hk.2) (.int .i64 ((rd_T61 l1 x29_3).f2))) (fun _ hk => hk.2) (.slice A146_3 ((rd_T61 l1 x29_3).f3).length c146_3)) (fun _ hk => ⟨hk.1.1.1, ⟨hk.1.1.2.1, ⟨hk.1.1.2.2, hk.1.2⟩⟩⟩)))⟩ : Aside0 (Kd.N k43 43 w68 w.heap.size (fun k_ => some k_ ≠ (v132 : Value).ownBlock ∧ some k_ ≠ (u26 : Value).ownBlock ∧ k_ ≠ gb101 ∧ k_ ≠ gb148) v144 y143)) (⟨(by rw [hw]; exact (by (with_reducible repeat (first | refine blk_drewN ?_ _ | refine blk_drew ?_ | refine blk_alloc ?_ _)); refine blk_far ?_ NB101_148.out _; (with_reducible repeat (first | refine blk_drewN ?_ _ | refine blk_drew ?_ | refine blk_alloc ?_ _)); refine blk_far ?_ NB101_148.out _; (with_reducible repeat (first | refine blk_drewN ?_ _ | refine blk_drew ?_ | refine blk_alloc ?_ _)); refine blk_far ?_ NB101_148.out _; (with_reducible repeat (first | refine blk_drewN ?_ _ | refine blk_drew ?_ | refine blk_alloc ?_ _)); refine blk_far ?_ NB101_148.out _; (with_reducible repeat (first | refine blk_drewN ?_ _ | refine blk_drew ?_ | refine blk_alloc ?_ _)); exact BK101.out))⟩ : Aside0 (w68.heap[gb101]? = some (.cells #[.int .i64 a4_0, .int .i64 a4_1, .int .i64 a4_2, .int .i64 a4_3] 49 (0, 0)))) (⟨(by rw [hw]; exact (bps BK148.out rfl))⟩ : Aside0 (w68.heap[gb148]? = some (.cells #[.int .i64 ((rd_T61 l1 x29_3).f0), .int .i64 ((rd_T61 l1 x29_3).f1), .int .i64 ((rd_T61 l1 x29_3).f2), .slice A146_3 ((rd_T61 l1 x29_3).f3).length c146_3] 61 (0, 0)))) (⟨(by rw [hw]; exact (by exact bl_g HB.out))⟩ : Aside0 (Below w.heap.size w w68)) ?_; clear hw HO_23 HO_26 HO_27 BK101 BK148 HB; intro HO_23 HO_26 HO_27 BK101 BK148 HB; obtain ⟨hcz69_0, hcz69_1, hcz69_2, hcz69_3, hfz69_0, hfz69_1, hfz69_2, hfz69_3⟩ := cells4 BK148.out) | ((with_reducible refine gate_callee (f := 20) rfl ?_); refine goesL_ (some 163) rfl rfl Try.func20 (by kernel_rfl) rfl #[.slice A146_3 ((rd_T61 l1 x29_3).f3).length c146_3] rfl (by simp only [ml]; try rfl) ?_; (with_reducible refine (gangwaylaw14_trimmed.calls k3 (fun k_ => k_ < w.heap.size) _ _ ((rd_T61 l1 x29_3).f3) t149 _ ?side1 A63.out).mono ?_); (case side1 => exact Kd.V_mk HC147_3.out (Kd.F_below (Kd.C_F k97_heap HR147_3.out) (by exact bl_g HB.out))); rintro e w70 ⟨v150, rfl, ho0, hb⟩; refine ⟨_, rfl, ?_⟩; refine mv7 (am (Kd.R_below (Kd.R_o HO_23.out) hb)) (am (Kd.N_below (by (with_reducible repeat (first | apply Kd.N_alloc | apply Kd.N_drewN | apply Kd.N_drew)); exact HO_26.out) hb)) (am (Kd.N_below (by (with_reducible repeat (first | apply Kd.N_alloc | apply Kd.N_drewN | apply Kd.N_drew)); exact HO_27.out) hb)) (am (Kd.V_lower (Kd.V_mono (ok' := fun k_ => some k_ ≠ (v132 : Value).ownBlock ∧ some k_ ≠ (u26 : Value).ownBlock ∧ some k_ ≠ (v144 : Value).ownBlock ∧ k_ ≠ gb101 ∧ k_ ≠ gb148) ho0 (fun k_ hk_ => ⟨Or.elim hk_ (fun hs_ => fun e_ => Nat.not_le.2 hs_ (Kd.R_base HO_23.out k_ e_.symm)) (fun hn_ => (Kd.fresh' (Kd.R_lt (Kd.R_o HO_23.out)) k_ hn_)), Or.elim hk_ (fun hs_ => fun e_ => Nat.not_le.2 hs_ (Kd.N_base HO_26.out k_ e_.symm)) (fun hn_ => (Kd.fresh' (Kd.N_lt (by (with_reducible repeat (first | apply Kd.N_alloc | apply Kd.N_drewN | apply Kd.N_drew)); exact HO_26.out)) k_ hn_)), Or.elim hk_ (fun hs_ => fun e_ => Nat.not_le.2 hs_ (Kd.N_base HO_27.out k_ e_.symm)) (fun hn_ => (Kd.fresh' (Kd.N_lt (by (with_reducible repeat (first | apply Kd.N_alloc | apply Kd.N_drewN | apply Kd.N_drew)); exact HO_27.out)) k_ hn_)), Or.elim hk_ (fun hs_ => fun e_ => Nat.not_le.2 hs_ (by rw [e_]; exact GW101.out)) (fun hn_ => (Kd.freshB (g := gb101) (o := .cells #[.int .i64 a4_0, .int .i64 a4_1, .int .i64 a4_2, .int .i64 a4_3] 49 (0, 0)) (blk_o BK101.out) k_ hn_)), Or.elim hk_ (fun hs_ => fun e_ => Nat.not_le.2 hs_ (by rw [e_]; exact GW148.out)) (fun hn_ => (Kd.freshB (g := gb148) (o := .cells #[.int .i64 ((rd_T61 l1 x29_3).f0), .int .i64 ((rd_T61 l1 x29_3).f1), .int .i64 ((rd_T61 l1 x29_3).f2), .slice A146_3 ((rd_T61 l1 x29_3).f3).length c146_3] 61 (0, 0)) (blk_o BK148.out) k_ hn_))⟩)) (below_size (by exact bl_g HB.out)))) (am (blk_below (blk_o BK101.out) hb)) (am (blk_below (blk_o BK148.out) hb)) (am (below_step (by exact bl_g HB.out) hb)) ?_; clear HO_23 HO_26 HO_27 BK101 BK148 HB; intro HO_23 HO_26 HO_27 HO151 BK101 BK148 HB; obtain ⟨Ao71, co71, eo71⟩ := Kd.V_slice HO151.out; subst eo71; obtain ⟨hcz72_0, hcz72_1, hcz72_2, hcz72_3, hfz72_0, hfz72_1, hfz72_2, hfz72_3⟩ := cells4 BK148.out) | ((with_reducible refine gate_store (t := 41) (p := 164) rfl ?_); refine store_event (t := 41) (p := 164) (v := ?vo_w73) (w1 := (w70.setCell ⟨gb148, 3, none⟩ (.slice Ao71 t149.length co71))) ?hg ?ho ?hn ?hr ?_; (case ho => rfl); (case hg => rfl); (case hn => rfl); (case hr => go_simp; try rfl); intro w73 hw; refine mv7 (⟨(by rw [hw]; exact (Kd.R_o (Kd.R_mono (Kd.R_far (p := ⟨gb148, 3, none⟩) (Kd.R_types HO_23.out BK148.out (by decide)) (fun _ hk => hk.2) (.slice Ao71 t149.length co71)) (fun _ hk => trivial))))⟩ : Aside0 (Kd.R (Kd.int .u8) 5 w73 w.heap.size (fun _ => True) v132 t129)) (⟨(by rw [hw]; exact (by (with_reducible repeat (first | apply Kd.N_alloc | apply Kd.N_drewN | apply Kd.N_drew)); exact Kd.N_mono (Kd.N_far (p := ⟨gb148, 3, none⟩) (Kd.N_mono HO_26.out (fun k_ hk => (⟨hk, hk.2.2.2⟩ : _ ∧ k_ ≠ gb148))) (fun _ hk => hk.2) (.slice Ao71 t149.length co71)) (fun _ hk => ⟨hk.1.1, ⟨hk.1.2.1, ⟨hk.1.2.2.1, hk.1.2.2.2⟩⟩⟩)))⟩ : Aside0 (Kd.N k61 61 w73 w.heap.size (fun k_ => some k_ ≠ (v132 : Value).ownBlock ∧ some k_ ≠ (v144 : Value).ownBlock ∧ k_ ≠ gb101 ∧ k_ ≠ gb148) u26 x26_3)) (⟨(by rw [hw]; exact (by (with_reducible repeat (first | apply Kd.N_alloc | apply Kd.N_drewN | apply Kd.N_drew)); exact Kd.N_mono (Kd.N_far (p := ⟨gb148, 3, none⟩) (Kd.N_mono HO_27.out (fun k_ hk => (⟨hk, hk.2.2.2⟩ : _ ∧ k_ ≠ gb148))) (fun _ hk => hk.2) (.slice Ao71 t149.length co71)) (fun _ hk => ⟨hk.1.1, ⟨hk.1.2.1, ⟨hk.1.2.2.1, hk.1.2.2.2⟩⟩⟩)))⟩ : Aside0 (Kd.N k43 43 w73 w.heap.size (fun k_ => some k_ ≠ (v132 : Value).ownBlock ∧ some k_ ≠ (u26 : Value).ownBlock ∧ k_ ≠ gb101 ∧ k_ ≠ gb148) v144 y143)) (⟨(by rw [hw]; exact (by (with_reducible repeat (first | apply Kd.V_alloc | apply Kd.V_drewN | apply Kd.V_drew)); exact Kd.V_mono (Kd.V_far (p := ⟨gb148, 3, none⟩) (Kd.V_mono HO151.out (fun k_ hk => (⟨hk, hk.2.2.2.2⟩ : _ ∧ k_ ≠ gb148))) (fun _ hk => hk.2) (.slice Ao71 t149.length co71)) (fun _ hk => ⟨hk.1.1, ⟨hk.1.2.1, ⟨hk.1.2.2.1, ⟨hk.1.2.2.2.1, hk.1.2.2.2.2⟩⟩⟩⟩)))⟩ : Aside0 (Kd.V k97 97 w73 w.heap.size (fun k_ => some k_ ≠ (v132 : Value).ownBlock ∧ some k_ ≠ (u26 : Value).ownBlock ∧ some k_ ≠ (v144 : Value).ownBlock ∧ k_ ≠ gb101 ∧ k_ ≠ gb148) (.slice Ao71 t149.length co71) t149)) (⟨(by rw [hw]; exact (by (with_reducible repeat (first | refine blk_drewN ?_ _ | refine blk_drew ?_ | refine blk_alloc ?_ _)); refine blk_far ?_ NB101_148.out _; (with_reducible repeat (first | refine blk_drewN ?_ _ | refine blk_drew ?_ | refine blk_alloc ?_ _)); exact BK101.out))⟩ : Aside0 (w73.heap[gb101]? = some (.cells #[.int .i64 a4_0, .int .i64 a4_1, .int .i64 a4_2, .int .i64 a4_3] 49 (0, 0)))) (⟨(by rw [hw]; exact (bps BK148.out rfl))⟩ : Aside0 (w73.heap[gb148]? = some (.cells #[.int .i64 ((rd_T61 l1 x29_3).f0), .int .i64 ((rd_T61 l1 x29_3).f1), .int .i64 ((rd_T61 l1 x29_3).f2), .slice Ao71 t149.length co71] 61 (0, 0)))) (⟨(by rw [hw]; exact (by exact bl_g HB.out))⟩ : Aside0 (Below w.heap.size w w73)) ?_; clear hw HO_23 HO_26 HO_27 HO151 BK101 BK148 HB; intro HO_23 HO_26 HO_27 HO151 BK101 BK148 HB; obtain ⟨hcz74_0, hcz74_1, hcz74_2, hcz74_3, hfz74_0, hfz74_1, hfz74_2, hfz74_3⟩ := cells4 BK148.out) | ((with_reducible refine gate_builtin (b := .append) (xs := #[.tmp 165, .tmp 167]) rfl ?_); (try (refine gate_guard (by rfl) ?_; dsimp only)); at_builtin; refine Kd.N_append k61 (w0 := w) w.heap.size rfl (.tmp 165) (.tmp 167) 23 61 (.agg #[(.int .i64 0), (.int .i64 0), (.int .i64 0), (.slice none 0 0)]) 48 rfl Try.underlying23 info61 rfl (by decide) (by omega) u26 x26_3 (⟨(rd_T61 l1 x29_3).f0, (rd_T61 l1 x29_3).f1, (rd_T61 l1 x29_3).f2, t149⟩ : S61) [.int .i64 ((rd_T61 l1 x29_3).f0), .int .i64 ((rd_T61 l1 x29_3).f1), .int .i64 ((rd_T61 l1 x29_3).f2), .slice Ao71 t149.length co71] (fun k_ => some k_ ≠ (v132 : Value).ownBlock ∧ some k_ ≠ (v144 : Value).ownBlock ∧ k_ ≠ gb101 ∧ k_ ≠ gb148) (fun k_ => ((fun k_ => some k_ ≠ (v132 : Value).ownBlock ∧ some k_ ≠ (v144 : Value).ownBlock ∧ k_ ≠ gb101 ∧ k_ ≠ gb148)) k_ ∧ some k_ ≠ (u26 : Value).ownBlock) rfl rfl ?aP (fun _ hk => hk) ?aF ?aO ?aB ?aS ?aL ?_; (case aP => exact (k61_mkF _ _ (⟨(rd_T61 l1 x29_3).f0, (rd_T61 l1 x29_3).f1, (rd_T61 l1 x29_3).f2, t149⟩ : S61) (Kd.V_reads' (Kd.V_mono (ok' := (fun k_ => ((fun k_ => some k_ ≠ (v132 : Value).ownBlock ∧ some k_ ≠ (v144 : Value).ownBlock ∧ k_ ≠ gb101 ∧ k_ ≠ gb148)) k_ ∧ some k_ ≠ (u26 : Value).ownBlock)) (HO151.out) (fun k_ hk => ⟨⟨hk.1, ⟨hk.2.2.1, ⟨hk.2.2.2.1, hk.2.2.2.2⟩⟩⟩, hk.2.1⟩))).2.1 (Kd.V_F (Kd.V_mono (ok' := (fun k_ => ((fun k_ => some k_ ≠ (v132 : Value).ownBlock ∧ some k_ ≠ (v144 : Value).ownBlock ∧ k_ ≠ gb101 ∧ k_ ≠ gb148)) k_ ∧ some k_ ≠ (u26 : Value).ownBlock)) (HO151.out) (fun k_ hk => ⟨⟨hk.1, ⟨hk.2.2.1, ⟨hk.2.2.2.1, hk.2.2.2.2⟩⟩⟩, hk.2.1⟩))))); (case aB => exact (by exact bl_g HB.out)); (case aF => exact (fun k_ hk => ⟨Kd.fresh' (Kd.R_lt (Kd.R_o HO_23.out)) k_ hk, Kd.fresh' (Kd.N_lt (by (with_reducible repeat (first | apply Kd.N_alloc | apply Kd.N_drewN | apply Kd.N_drew)); exact HO_27.out)) k_ hk, Kd.freshB (g := gb101) (o := .cells #[.int .i64 a4_0, .int .i64 a4_1, .int .i64 a4_2, .int .i64 a4_3] 49 (0, 0)) (blk_o BK101.out) k_ hk, Kd.freshB (g := gb148) (o := .cells #[.int .i64 ((rd_T61 l1 x29_3).f0), .int .i64 ((rd_T61 l1 x29_3).f1), .int .i64 ((rd_T61 l1 x29_3).f2), .slice Ao71 t149.length co71] 61 (0, 0)) (blk_o BK148.out) k_ hk⟩)); (case aO => exact (by (with_reducible repeat (first | apply Kd.N_alloc | apply Kd.N_drewN | apply Kd.N_drew)); exact HO_26.out)); (case aS => exact (below_size (by exact bl_g HB.out))); (case aL => have := LMc64.out; omega); intro v153 w75 ho hb hg hat; rw [← Ny152.out] at ho; refine mv7 (am (Kd.R_over' (Kd.R_o HO_23.out) (Kd.N_typed (by (with_reducible repeat (first | apply Kd.N_alloc | apply Kd.N_drewN | apply Kd.N_drew)); exact HO_26.out)) (by decide) hg)) (am (Kd.N_afterv (ok := (fun k_ => some k_ ≠ (v132 : Value).ownBlock ∧ k_ ≠ gb101 ∧ k_ ≠ gb148)) (by (with_reducible repeat (first | apply Kd.N_alloc | apply Kd.N_drewN | apply Kd.N_drew)); exact Kd.N_mono HO_27.out (fun _ hk => ⟨⟨hk.1, ⟨hk.2.2.1, hk.2.2.2⟩⟩, hk.2.1⟩)) hg hat)) (am (blk_grown (g := gb101) (o := .cells #[.int .i64 a4_0, .int .i64 a4_1, .int .i64 a4_2, .int .i64 a4_3] 49 (0, 0)) (blk_o BK101.out) hg (Kd.N_ne HO_26.out BK101.out (by decide)))) (am (blk_grown (g := gb148) (o := .cells #[.int .i64 ((rd_T61 l1 x29_3).f0), .int .i64 ((rd_T61 l1 x29_3).f1), .int .i64 ((rd_T61 l1 x29_3).f2), .slice Ao71 t149.length co71] 61 (0, 0)) (blk_o BK148.out) hg (Kd.N_away HO_26.out (fun _ hk => hk.2.2.2)))) (am (Kd.V_afterv (ok := (fun k_ => some k_ ≠ (v132 : Value).ownBlock ∧ some k_ ≠ (v144 : Value).ownBlock ∧ k_ ≠ gb101 ∧ k_ ≠ gb148)) (by (with_reducible repeat (first | apply Kd.V_alloc | apply Kd.V_drewN | apply Kd.V_drew)); exact Kd.V_mono HO151.out (fun _ hk => ⟨⟨hk.1, ⟨hk.2.2.1, ⟨hk.2.2.2.1, hk.2.2.2.2⟩⟩⟩, hk.2.1⟩)) hg hat)) (am (hb)) (am (ho)) ?_; clear HO_23 HO_27 BK101 BK148 HO151 HB HO_26; intro HO_23 HO_27 BK101 BK148 HO151 HB HO154; clear ho hb hg hat))
       go_roundg k3
       case measure => have := HJ9.out; have := HK2.out; have := HK3.out; omega
       case rel => exact ⟨(y152), (wrap64 (x29_3 + 1)), (by first | rfl | (simp; done) | (simp [*]; done)), H', ⟨by have := HJ9.out; have := HK2.out; have := HK3.out; omega⟩, ⟨by (with_reducible repeat (first | apply Kd.R_alloc | apply Kd.R_drewN | apply Kd.R_drew)); exact HO_23.out⟩, ⟨by (with_reducible repeat (first | apply Kd.N_alloc | apply Kd.N_drewN | apply Kd.N_drew)); exact Kd.N_mono HO154.out (fun _ hk => ⟨hk.1, ⟨hk.2.1, hk.2.2.1⟩⟩)⟩, ⟨by (with_reducible repeat (first | apply Kd.N_alloc | apply Kd.N_drewN | apply Kd.N_drew)); exact Kd.N_mono HO_27.out (fun _ hk => ⟨hk.1.1, ⟨hk.2, hk.1.2.1⟩⟩)⟩, ⟨by (with_reducible repeat (first | refine blk_drewN ?_ _ | refine blk_drew ?_ | refine blk_alloc ?_ _)); exact BK101.out⟩, ⟨by exact bl_g HB.out⟩⟩
end Go.Proofs.Ytfgfnflhdabmcaa.G
end
section
namespace Go.Proofs.Ytfgfnflhdabmcaa.Stmt
open Go.RowKit Go.Proofs.Ytfgfnflhdabmcaa.G Go.Proofs.YtfgfnflhdabmcaaW.PrintWords
def wf97 (x : S97) : Prop := ((Lit.int .i64 x.f0).wf = true) ∧ ((Lit.int .i64 x.f1).wf = true) ∧ ((Lit.int .i64 x.f2).wf = true)
def wt97 (x : S97) : Nat := (1 + (1 + (1))) + 1
def wf43 (x : S43) : Prop := ((Lit.int .i64 x.f0).wf = true) ∧ (x.f1.length * 24 ≤ 140737488351232 ∧ x.f1.length ≤ 9223372036854775807 ∧ ∀ y1 ∈ x.f1, wf97 y1)
def wt43 (x : S43) : Nat := (1 + (((x.f1.map wt97).sum + 1))) + 1
def wf61 (x : S61) : Prop := ((Lit.int .i64 x.f0).wf = true) ∧ ((Lit.int .i64 x.f1).wf = true) ∧ ((Lit.int .i64 x.f2).wf = true) ∧ (x.f3.length * 24 ≤ 140737488351232 ∧ x.f3.length ≤ 9223372036854775807 ∧ ∀ y1 ∈ x.f3, wf97 y1)
def wt61 (x : S61) : Nat := (1 + (1 + (1 + (((x.f3.map wt97).sum + 1))))) + 1
def wf49 (x : S49) : Prop := ((Lit.int .i64 x.f0).wf = true) ∧ ((Lit.int .i64 x.f1).wf = true) ∧ ((Lit.int .i64 x.f2).wf = true) ∧ ((Lit.int .i64 x.f3).wf = true)
def wt49 (x : S49) : Nat := (1 + (1 + (1 + (1)))) + 1
def EhframeBack : Prop := ∀ (l0 : List (S43)) (l1 : List (S61)) (a2 : Int) (a3 : Bool) (a4 : S49) (l5 : List Int) (l6 : List Int), (l0.length * 32 ≤ 140737488351232 ∧ l0.length ≤ 9223372036854775807 ∧ ∀ y1 ∈ l0, wf43 y1) → (l1.length * 48 ≤ 140737488351232 ∧ l1.length ≤ 9223372036854775807 ∧ ∀ y1 ∈ l1, wf61 y1) → ((Lit.int .i64 a2).wf = true) → (wf49 a4) → (l5.length * 1 ≤ 140737488351232 ∧ l5.length ≤ 9223372036854775807 ∧ ∀ y1 ∈ l5, (Lit.int .u8 y1).wf = true) → (l6.length * 1 ≤ 140737488351232 ∧ l6.length ≤ 9223372036854775807 ∧ ∀ y1 ∈ l6, (Lit.int .u8 y1).wf = true) → (((l0.map wt43).sum + 1) + ((l1.map wt61).sum + 1) + 1 + 1 + wt49 a4 + ((l5.map (fun y => 1)).sum + 1) + ((l6.map (fun y => 1)).sum + 1) ≤ 1048576) → ∃ k, G.gangwaylaw14_EhframeBack.f k l0 l1 a2 a3 a4.f0 a4.f1 a4.f2 a4.f3 l5 l6 = some true
end Go.Proofs.Ytfgfnflhdabmcaa.Stmt
end
section
namespace Go.Proofs.Ytfgfnflhdabmcaa.CfaB
open Go.RowKit Go.Proofs.Ytfgfnflhdabmcaa.G Go.Proofs.YtfgfnflhdabmcaaW.PrintWords Go.Proofs.YtfgfnflhdabmcaaW.PrintLast Go.Proofs.YtfgfnflhdabmcaaW.PrintMore Go.Proofs.Ytfgfnflhdabmcaa.Bit Go.Proofs.Ytfgfnflhdabmcaa.Leb Go.Proofs.Ytfgfnflhdabmcaa.Cfa
theorem bytes_f {k r n : Int} (h : mayF k r n = true) (kk : Nat) (hk : 12 ≤ kk) : cfa_Op_bytes.f kk k r n = some (opB k r n) := if_pos h
def outB : List (Int × Int × Int) → List Int → List Int × Int
  | [], acc => (acc, 0)
  | (k, r, n) :: t, acc => if mayF k r n = true then outB t (acc ++ opB k r n) else ([], 130)
theorem opl_at (l : List S105) (i : Nat) (h : i < l.length) : opl (l.drop i) = ((rd_T105 l (i : Int)).f0, (rd_T105 l (i : Int)).f1, (rd_T105 l (i : Int)).f2) :: opl (l.drop (i + 1)) := by
  have hrd : rd_T105 l (i : Int) = l[i] := by simp [rd_T105, List.getD, h]
  rw [hrd, List.drop_eq_getElem_cons h]
  rfl
theorem write_l0 (l : List S105) (hl : l.length ≤ 4000) (d : Nat) : ∀ (kk i : Nat) (acc : List Int), i + d = l.length → d + 20 ≤ kk → acc.length ≤ 30 * i → cfa_Write.l0 kk acc l (l.length : Int) (i : Int) = some (outB (opl (l.drop i)) acc) := by
  induction d with
  | zero =>
    intro kk i acc h hk ha
    obtain ⟨kk, rfl⟩ : ∃ m, kk = m + 1 := ⟨kk - 1, by omega⟩
    rw [cfa_Write.l0, if_neg (by omega), List.drop_of_length_le (by omega)]
    rfl
  | succ d ih =>
    intro kk i acc h hk ha
    obtain ⟨kk, rfl⟩ : ∃ m, kk = m + 1 := ⟨kk - 1, by omega⟩
    rw [cfa_Write.l0, if_pos (by omega), if_pos (by omega), if_pos (by omega), opl_at l i (by omega)]
    generalize rd_T105 l (i : Int) = x
    unfold cfa_Op_may.f outB
    rw [Option.bind_some]
    by_cases c : mayF x.f0 x.f1 x.f2 = true
    · have hle := opB_le c
      rw [if_pos c, if_pos c, bytes_f c kk (by omega), Option.bind_some, if_pos (by omega), wrap64_id (by omega) (by omega), show (i : Int) + 1 = ((i + 1 : Nat) : Int) from by omega, ih kk (i + 1) _ (by omega) (by omega) (by rw [List.length_append]; omega)]
    · rw [if_neg c, if_neg c]
def writeV (l : List (Int × Int × Int)) : List Int × Int := if l.length > 4000 then ([], 6) else outB l []
theorem write_f (l : List S105) (kk : Nat) (hk : l.length + 20 ≤ kk) : cfa_Write.f kk l = some (writeV (opl l)) := by
  unfold cfa_Write.f writeV
  rw [opl_length]
  by_cases c : l.length > 4000
  · rw [if_pos c, if_pos (by omega)]
  · rw [if_neg c, if_neg (by omega)]
    exact write_l0 l (by omega) l.length kk 0 [] (by omega) (by omega) (by simp)
end Go.Proofs.Ytfgfnflhdabmcaa.CfaB
end
section
namespace Go.Proofs.Ytfgfnflhdabmcaa.Leb
open Go.RowKit Go.Proofs.Ytfgfnflhdabmcaa.G Go.Proofs.YtfgfnflhdabmcaaW.PrintWords Go.Proofs.YtfgfnflhdabmcaaW.PrintLast Go.Proofs.YtfgfnflhdabmcaaW.PrintMore Go.Proofs.Ytfgfnflhdabmcaa.Bit
def leN : List Int → Int
  | [] => 0
  | b :: bs => b + 256 * leN bs
def leB (u : Int) : Nat → List Int
  | 0 => []
  | s + 1 => u % 256 :: leB (u / 256) s
theorem leB_length (s : Nat) : ∀ u, (leB u s).length = s := by
  induction s with
  | zero => intro u; rfl
  | succ s ih => intro u; simp [leB, ih]
theorem leB_range (s : Nat) : ∀ u, ∀ b ∈ leB u s, 0 ≤ b ∧ b ≤ 255 := by
  induction s with
  | zero => intro u b h; simp [leB] at h
  | succ s ih =>
    intro u b h
    simp only [leB, List.mem_cons] at h
    rcases h with rfl | h
    · omega
    · exact ih _ _ h
theorem pow256 (i : Nat) : (256 : Int) ^ (i + 1) = 256 * 256 ^ i := by rw [Int.pow_succ, Int.mul_comm]
theorem pow256_pos (i : Nat) : (0 : Int) < 256 ^ i := Int.pow_pos (by decide +kernel)
theorem leN_leB (s : Nat) : ∀ u, leN (leB u s) = u % 256 ^ s := by
  induction s with
  | zero => intro u; simp [leB, leN, Int.emod_one]
  | succ s ih =>
    intro u
    simp only [leB, leN]
    rw [ih, pow256]
    have h1 := Int.emod_add_mul_ediv u 256
    have h2 := Int.emod_add_mul_ediv (u / 256) (256 ^ s)
    have h3 : (0 : Int) ≤ (u / 256) % 256 ^ s := Int.emod_nonneg _ (by have := pow256_pos s; omega)
    have h4 : (u / 256) % 256 ^ s < 256 ^ s := Int.emod_lt_of_pos _ (pow256_pos s)
    have h5 : u = (u % 256 + 256 * ((u / 256) % 256 ^ s)) + (256 * 256 ^ s) * ((u / 256) / 256 ^ s) := by
      rw [Int.mul_assoc]
      generalize (256 : Int) ^ s * (u / 256 / 256 ^ s) = y at *
      omega
    have h6 : 0 ≤ u % 256 + 256 * ((u / 256) % 256 ^ s) ∧ u % 256 + 256 * ((u / 256) % 256 ^ s) < 256 * 256 ^ s := by omega
    generalize u % 256 + 256 * ((u / 256) % 256 ^ s) = z at *
    rw [h5, Int.add_mul_emod_self_left, Int.emod_eq_of_lt h6.1 h6.2]
theorem leN_range (l : List Int) (h : ∀ b ∈ l, 0 ≤ b ∧ b ≤ 255) : 0 ≤ leN l ∧ leN l < 256 ^ l.length := by
  induction l with
  | nil => simp [leN]
  | cons b bs ih =>
    have h1 := h b (by simp)
    have h2 := ih (fun x hx => h x (by simp [hx]))
    simp only [leN, List.length_cons, pow256]
    omega
theorem shr_bytes (u : Int) (i : Nat) (hi : i ≤ 8) : shr .u64 u (wrap64 (8 * (i : Int))) = u / 256 ^ i := by
  unfold shr
  rw [wrap64_id (by omega) (by omega), show (8 * (i : Int)).toNat = 8 * i from by omega, Nat.min_eq_left (by simp [IntKind.bits]; omega), show (2 : Int) ^ (8 * i) = 256 ^ i from by rw [Int.pow_mul]; rfl]
theorem low_l0 (d : Nat) : ∀ (k i : Nat) (u : Int) (s : Nat) (acc : List Int), s ≤ 8 → i ≤ s → s - i = d → d < k → acc.length ≤ 1000 - d → d ≤ 8 → leb_low_uint64.l0 k u acc (s : Int) (i : Int) = some (acc ++ leB (u / 256 ^ i) (s - i)) := by
  induction d with
  | zero =>
    intro k i u s acc hs hi hd hk ha _
    obtain ⟨k, rfl⟩ : ∃ m, k = m + 1 := ⟨k - 1, by omega⟩
    simp only [leb_low_uint64.l0]
    rw [if_neg (by omega), hd]
    simp [leB]
  | succ d ih =>
    intro k i u s acc hs hi hd hk ha hd8
    obtain ⟨k, rfl⟩ : ∃ m, k = m + 1 := ⟨k - 1, by omega⟩
    simp only [leb_low_uint64.l0]
    rw [if_pos (show (i : Int) < s by omega), shr_bytes u i (by omega), wrap64_id (n := 8 * (i : Int)) (by omega) (by omega), if_pos (show 0 ≤ 8 * (i : Int) by omega), if_pos (show acc.length < 140737488355328 by omega), wrap64_id (n := (i : Int) + 1) (by omega) (by omega), show (i : Int) + 1 = ((i + 1 : Nat) : Int) from by omega,
      ih k (i + 1) u s _ hs (by omega) (by omega) (by omega) (by simp; omega) (by omega), show s - i = (s - (i + 1)) + 1 from by omega]
    simp only [leB, List.append_assoc, List.singleton_append]
    rw [Int.pow_succ, Int.ediv_ediv_of_nonneg (by have := pow256_pos i; omega)]
theorem low_f (u : Int) (s : Nat) (hs : s ≤ 8) (k : Nat) (hk : 9 ≤ k) : leb_low_uint64.f k u (s : Int) = some (leB u s) := by
  unfold leb_low_uint64.f
  have := low_l0 s k 0 u s [] hs (by omega) (by omega) (by omega) (by simp) (by omega)
  simpa using this
def sizedB (s : Int) : Bool := s == 1 || s == 2 || s == 4 || s == 8
theorem sized_f (s : Int) : leb_sized.f s = some (sizedB s) := by
  unfold leb_sized.f sizedB
  by_cases h1 : s = 1
  · simp [h1]
  · by_cases h2 : s = 2
    · simp [h2]
    · by_cases h4 : s = 4
      · simp [h4]
      · simp [h1, h2, h4]
theorem sizedB_cases {s : Int} (h : sizedB s = true) : s = 1 ∨ s = 2 ∨ s = 4 ∨ s = 8 := by
  unfold sizedB at h
  simp at h
  omega
def putV (n s : Int) : List Int × Int :=
  if sizedB s = true then (if s < 8 ∧ (n < -2 ^ (8 * s.toNat - 1) ∨ 2 ^ (8 * s.toNat) ≤ n) then ([], 11) else (leB (n % 18446744073709551616) s.toNat, 0)) else ([], 1)
theorem put_f (n s : Int) (k : Nat) (hk : 9 ≤ k) : leb_Put.f k n s = some (putV n s) := by
  unfold leb_Put.f putV
  rw [sized_f, Option.bind_some]
  by_cases hs : sizedB s = true
  · rw [if_pos hs, if_pos hs, wrap_u64]
    rcases sizedB_cases hs with rfl | rfl | rfl | rfl
    · rw [show leb_low_uint64.f k (n % 18446744073709551616) 1 = _ from low_f _ 1 (by omega) k hk]
      have e1 : shl .i64 (-1) (wrap64 (wrap64 (8 * 1) - 1)) = -128 := by decide +kernel
      have e2 : shl .i64 1 (wrap64 (8 * 1)) = 256 := by decide +kernel
      rw [e1, e2, if_pos (show (1 : Int) < 8 by omega), if_pos (show 0 ≤ wrap64 (wrap64 (8 * 1) - 1) by decide +kernel), if_pos (show 0 ≤ wrap64 (8 * 1) by decide +kernel)]
      simp only [Option.bind_some]
      by_cases c1 : n < -128
      · rw [if_pos c1, if_pos (by simp; omega)]
      · rw [if_neg c1]
        by_cases c2 : n ≥ 256
        · rw [if_pos c2, if_pos (by simp; omega)]
        · rw [if_neg c2, if_neg (by simp; omega)]; rfl
    · rw [show leb_low_uint64.f k (n % 18446744073709551616) 2 = _ from low_f _ 2 (by omega) k hk]
      have e1 : shl .i64 (-1) (wrap64 (wrap64 (8 * 2) - 1)) = -32768 := by decide +kernel
      have e2 : shl .i64 1 (wrap64 (8 * 2)) = 65536 := by decide +kernel
      rw [e1, e2, if_pos (show (2 : Int) < 8 by omega), if_pos (show 0 ≤ wrap64 (wrap64 (8 * 2) - 1) by decide +kernel), if_pos (show 0 ≤ wrap64 (8 * 2) by decide +kernel)]
      simp only [Option.bind_some]
      by_cases c1 : n < -32768
      · rw [if_pos c1, if_pos (by simp; omega)]
      · rw [if_neg c1]
        by_cases c2 : n ≥ 65536
        · rw [if_pos c2, if_pos (by simp; omega)]
        · rw [if_neg c2, if_neg (by simp; omega)]; rfl
    · rw [show leb_low_uint64.f k (n % 18446744073709551616) 4 = _ from low_f _ 4 (by omega) k hk]
      have e1 : shl .i64 (-1) (wrap64 (wrap64 (8 * 4) - 1)) = -2147483648 := by decide +kernel
      have e2 : shl .i64 1 (wrap64 (8 * 4)) = 4294967296 := by decide +kernel
      rw [e1, e2, if_pos (show (4 : Int) < 8 by omega), if_pos (show 0 ≤ wrap64 (wrap64 (8 * 4) - 1) by decide +kernel), if_pos (show 0 ≤ wrap64 (8 * 4) by decide +kernel)]
      simp only [Option.bind_some]
      by_cases c1 : n < -2147483648
      · rw [if_pos c1, if_pos (by simp; omega)]
      · rw [if_neg c1]
        by_cases c2 : n ≥ 4294967296
        · rw [if_pos c2, if_pos (by simp; omega)]
        · rw [if_neg c2, if_neg (by simp; omega)]; rfl
    · rw [show leb_low_uint64.f k (n % 18446744073709551616) 8 = _ from low_f _ 8 (by omega) k hk, if_neg (show ¬ (8 : Int) < 8 by omega), if_neg (by simp)]
      rfl
  · rw [if_neg hs, if_neg hs]
def sgnV (u : Int) (s : Int) (sg : Bool) : Int :=
  if sg = true then (if 2 ^ (8 * s.toNat - 1) ≤ u then u - 2 ^ (8 * s.toNat) else u) else wrap64 u
theorem get_l0 (l : List Int) (a : Int) (s : Nat) (sg : Bool) (hl : ∀ b ∈ l, 0 ≤ b ∧ b ≤ 255) (hs : s ≤ 8) (ha : 0 ≤ a) (hal : a + s ≤ l.length) (hm : l.length ≤ 9223372036854775807) (d : Nat) :
    ∀ (k i : Nat) (u : Int), i ≤ s → s - i = d → d < k → 0 ≤ u → u < 256 ^ i →
      leb_Get.l0 k l a s sg u s i = leb_Get.l0 (k - d) l a s sg (u + 256 ^ i * leN ((l.drop (a.toNat + i)).take (s - i))) s s := by
  induction d with
  | zero =>
    intro k i u hi hd hk hu0 hu
    rw [show i = s from by omega]
    simp [leN]
  | succ d ih =>
    intro k i u hi hd hk hu0 hu
    obtain ⟨k, rfl⟩ : ∃ m, k = m + 1 := ⟨k - 1, by omega⟩
    have hil : a.toNat + i < l.length := by omega
    have hb := hl _ (List.getElem_mem hil)
    have hrd : rd l (wrap64 (a + (i : Int))) = l[a.toNat + i] := by
      rw [wrap64_id (by omega) (by omega)]
      simp [rd, List.getD, show (a + (i : Int)).toNat = a.toNat + i from by omega, hil]
    have hpos := pow256_pos i
    have hp8 : (256 : Int) ^ i * 256 ≤ 18446744073709551616 := by
      have h2 : ((256 ^ (i + 1) : Nat) : Int) ≤ ((256 ^ 8 : Nat) : Int) := Int.ofNat_le.mpr (Nat.pow_le_pow_right (n := 256) (by decide) (show i + 1 ≤ 8 by omega))
      rw [Int.natCast_pow, Int.natCast_pow, Int.pow_succ] at h2
      exact h2
    have hmul0 : 0 ≤ l[a.toNat + i] * 256 ^ i := Int.mul_nonneg hb.1 (by omega)
    have hmul : l[a.toNat + i] * 256 ^ i ≤ 255 * 256 ^ i := Int.mul_le_mul_of_nonneg_right hb.2 (by omega)
    have hshl : shl .u64 (IntKind.u64.wrap (l[a.toNat + i])) (wrap64 (8 * (i : Int))) = l[a.toNat + i] * 256 ^ i := by
      unfold shl
      rw [wrap64_id (by omega) (by omega), wrap_u64, wrap_u64, show (8 * (i : Int)).toNat = 8 * i from by omega, Nat.min_eq_left (by simp [IntKind.bits]; omega), show (2 : Int) ^ (8 * i) = 256 ^ i from by rw [Int.pow_mul]; rfl,
        Int.emod_eq_of_lt hb.1 (by omega), Int.emod_eq_of_lt hmul0 (by omega)]
    have hor : Go.bits .or .u64 u (l[a.toNat + i] * 256 ^ i) = u + l[a.toNat + i] * 256 ^ i := by
      refine u64_join u _ (8 * i) hu0 ?_ hmul0 ?_ (by omega) (by omega)
      · rw [show (2 : Int) ^ (8 * i) = 256 ^ i from by rw [Int.pow_mul]; rfl]; exact hu
      · rw [show (2 : Int) ^ (8 * i) = 256 ^ i from by rw [Int.pow_mul]; rfl]; exact Int.mul_emod_left _ _
    have step : leb_Get.l0 (k + 1) l a s sg u s i = leb_Get.l0 k l a s sg (u + l[a.toNat + i] * 256 ^ i) s ((i + 1 : Nat) : Int) := by
      rw [leb_Get.l0]
      rw [if_pos (show (i : Int) < s by omega), hrd, hshl, hor, wrap64_id (n := a + (i : Int)) (by omega) (by omega), if_pos (show 0 ≤ a + (i : Int) by omega), if_pos (show a + (i : Int) < l.length by omega), wrap64_id (n := 8 * (i : Int)) (by omega) (by omega), if_pos (show 0 ≤ 8 * (i : Int) by omega), wrap64_id (n := (i : Int) + 1) (by omega) (by omega)]
      rfl
    rw [step, ih k (i + 1) _ (by omega) (by omega) (by omega) (by omega) (by rw [pow256]; omega), show k + 1 - (d + 1) = k - d from by omega]
    have e : ((l.drop (a.toNat + i)).take (s - i)) = l[a.toNat + i] :: ((l.drop (a.toNat + (i + 1))).take (s - (i + 1))) := by
      rw [List.drop_eq_getElem_cons hil, show s - i = (s - (i + 1)) + 1 from by omega, List.take_succ_cons]
      rfl
    rw [e]
    simp only [leN]
    congr 1
    rw [pow256, Int.mul_add, Int.mul_comm (l[a.toNat + i])]
    have : (256 : Int) ^ i * (256 * leN ((l.drop (a.toNat + (i + 1))).take (s - (i + 1)))) = 256 * 256 ^ i * leN ((l.drop (a.toNat + (i + 1))).take (s - (i + 1))) := by
      rw [Int.mul_comm 256 (256 ^ i), Int.mul_assoc]
    omega
theorem get_end (l : List Int) (a : Int) (s : Nat) (sg : Bool) (hs : s = 1 ∨ s = 2 ∨ s = 4 ∨ s = 8) (u : Int) (h0 : 0 ≤ u) (h1 : u < 256 ^ s) (k : Nat) : leb_Get.l0 (k + 1) l a s sg u s s = some (sgnV u s sg, 0) := by
  rw [leb_Get.l0]
  rw [if_neg (by omega)]
  unfold sgnV
  cases sg with
  | false => simp
  | true =>
    rw [if_pos rfl, if_pos rfl]
    rcases hs with rfl | rfl | rfl | rfl
    · have h1' : u < 256 := by simpa using h1
      rw [if_pos (show 0 ≤ wrap64 (64 - wrap64 (8 * ((1 : Nat) : Int))) by decide +kernel), show wrap64 (64 - wrap64 (8 * ((1 : Nat) : Int))) = 56 from by decide +kernel]
      unfold shl shr
      rw [wrap_u64, wrap64_eq, show min (56 : Int).toNat IntKind.u64.bits = 56 from by decide +kernel, show min (56 : Int).toNat IntKind.i64.bits = 56 from by decide +kernel]
      simp
      split <;> omega
    · have h1' : u < 65536 := by simpa using h1
      rw [if_pos (show 0 ≤ wrap64 (64 - wrap64 (8 * ((2 : Nat) : Int))) by decide +kernel), show wrap64 (64 - wrap64 (8 * ((2 : Nat) : Int))) = 48 from by decide +kernel]
      unfold shl shr
      rw [wrap_u64, wrap64_eq, show min (48 : Int).toNat IntKind.u64.bits = 48 from by decide +kernel, show min (48 : Int).toNat IntKind.i64.bits = 48 from by decide +kernel]
      simp
      split <;> omega
    · have h1' : u < 4294967296 := by simpa using h1
      rw [if_pos (show 0 ≤ wrap64 (64 - wrap64 (8 * ((4 : Nat) : Int))) by decide +kernel), show wrap64 (64 - wrap64 (8 * ((4 : Nat) : Int))) = 32 from by decide +kernel]
      unfold shl shr
      rw [wrap_u64, wrap64_eq, show min (32 : Int).toNat IntKind.u64.bits = 32 from by decide +kernel, show min (32 : Int).toNat IntKind.i64.bits = 32 from by decide +kernel]
      simp
      split <;> omega
    · have h1' : u < 18446744073709551616 := by simpa using h1
      rw [if_pos (show 0 ≤ wrap64 (64 - wrap64 (8 * ((8 : Nat) : Int))) by decide +kernel), show wrap64 (64 - wrap64 (8 * ((8 : Nat) : Int))) = 0 from by decide +kernel]
      unfold shl shr
      rw [wrap_u64, wrap64_eq, show min (0 : Int).toNat IntKind.u64.bits = 0 from by decide +kernel, show min (0 : Int).toNat IntKind.i64.bits = 0 from by decide +kernel]
      simp
      split <;> omega
def getV (l : List Int) (a s : Int) (sg : Bool) : Int × Int :=
  if sizedB s = true then (if a < 0 ∨ l.length - s < a then (0, 20) else (sgnV (leN ((l.drop a.toNat).take s.toNat)) s sg, 0)) else (0, 1)
theorem get_f (l : List Int) (a s : Int) (sg : Bool) (hl : ∀ b ∈ l, 0 ≤ b ∧ b ≤ 255) (hm : l.length ≤ 9223372036854775807) (k : Nat) (hk : 10 ≤ k) : leb_Get.f k l a s sg = some (getV l a s sg) := by
  unfold leb_Get.f getV
  rw [sized_f, Option.bind_some]
  by_cases hs : sizedB s = true
  · rw [if_pos hs, if_pos hs]
    have hs' := sizedB_cases hs
    rw [wrap64_id (by omega) (by omega)]
    by_cases c1 : a < 0
    · rw [if_pos c1, if_pos (.inl c1)]
    · rw [if_neg c1]
      by_cases c2 : a > l.length - s
      · rw [if_pos c2, if_pos (.inr c2)]
      · rw [if_neg c2, if_neg (by omega)]
        obtain ⟨m, rfl⟩ := Int.eq_ofNat_of_zero_le (show 0 ≤ s by omega)
        have := get_l0 l a m sg hl (by omega) (by omega) (by omega) hm m k 0 0 (by omega) (by omega) (by omega) (by omega) (by simp)
        simp only [Int.pow_zero, Int.one_mul, Int.zero_add, Nat.add_zero, Nat.sub_zero, Int.toNat_natCast] at this ⊢
        have hr := leN_range ((l.drop a.toNat).take m) (fun b hb => hl b (List.mem_of_mem_drop (List.mem_of_mem_take hb)))
        have hlen : ((l.drop a.toNat).take m).length = m := by rw [List.length_take, List.length_drop]; omega
        rw [hlen] at hr
        obtain ⟨j, hj⟩ : ∃ j, k - m = j + 1 := ⟨k - m - 1, by omega⟩
        rw [show ((0 : Int)) = ((0 : Nat) : Int) from rfl]
        rw [show (((0 : Nat) : Int)) = (0 : Int) from rfl] at *
        refine Eq.trans this ?_
        rw [hj]
        exact get_end l a m sg (by omega) _ hr.1 hr.2 j
  · rw [if_neg hs, if_neg hs]
end Go.Proofs.Ytfgfnflhdabmcaa.Leb
end
