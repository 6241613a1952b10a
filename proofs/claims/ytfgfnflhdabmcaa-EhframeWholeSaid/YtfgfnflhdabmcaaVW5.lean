/- Lemmas and contracts, one text behind the other: what the row of this claim needs; no conditions beyond those that each theorem names. -/
import Derived.Test.YtfgfnflhdabmcaaVW4
set_option linter.unusedVariables false
set_option linter.unusedSimpArgs false
set_option maxRecDepth 100000
section
namespace Go.Proofs.Ytfgfnflhdabmcaa.EhRd
open Go.RowKit Go.Proofs.Ytfgfnflhdabmcaa.G Go.Proofs.YtfgfnflhdabmcaaW.PrintWords Go.Proofs.YtfgfnflhdabmcaaW.PrintLast Go.Proofs.YtfgfnflhdabmcaaW.PrintMore
theorem read_idle (p q r : Addr) (w : World) :
    CallsD Try.prog 54 #[.pointer (some p), .pointer (some q), .pointer (some r)] .returning w fun e u' w' => e = .returned (.tuple #[]) ∧ u' = .returning ∧ w' = w := by
 refine callsD_of_wpS Try.func54 rfl fun c₀ cs hu => ?_
 apply wpS_seq
 apply wpS_region
 simp [wpOpsS, go_sem, recoverD, hu, Try.ntmps54, Exit.thenS]
 apply wpS_seq
 apply wpS_region
 simp [wpOpsS, go_sem, recoverD, hu, Try.ntmps54, Exit.thenS]
 refine wpS_cond (t := false) (by simp [Act.eval, Array.replicate]) ?_
 simp only [Bool.false_eq_true, if_false]
 refine wpS_of_wp (wp_skip ?_)
 cases c₀
 simp_all [bodyPostS, results, Try.results54]
theorem results3c {fn : Func} {p q r : Tmp} {ty ty1 ty2 e e1 : TypeId} (h : fn.results = #[.cell p ty, .cell q ty1, .cell r ty2]) (tmps : Array Value) (P : Program) (w : World) (a b d : Addr) (x y z : Value) (hp : tmps.getD p undef = .pointer (some a)) (hq : tmps.getD q undef = .pointer (some b)) (hr : tmps.getD r undef = .pointer (some d)) (hu : P.underlying ty = some (.slice e)) (hu1 : P.underlying ty1 = some (.slice e1)) (hu2 : P.underlying ty2 = some (.int .i64)) (hc : w.cell? a = some x) (hc1 : w.cell? b = some y) (hc2 : w.cell? d = some z) :
    (results fn tmps).run P w = .ok (.tuple #[x, y, z]) w := by
 have hag : (isAgg ty).run P w = .ok false w := by simp [isAgg, underlying, hu]
 have hag1 : (isAgg ty1).run P w = .ok false w := by simp [isAgg, underlying, hu1]
 have hag2 : (isAgg ty2).run P w = .ok false w := by simp [isAgg, underlying, hu2]
 simp [results, h, loadVar]
 simp at hp hq hr
 rw [hp, hq, hr]
 simp [asAddr, hag, hag1, hag2, hc, hc1, hc2]
theorem leaves_tmps {P : Program} {fn : Func} {t1 t2 : Array Value} {R : Ending → World → Prop} (ht : ∀ w, (results fn t1).run P w = (results fn t2).run P w) : ∀ (ds : List Deferred) (u : FrameMode) (w : World), Leaves P fn t1 R ds u w → Leaves P fn t2 R ds u w
  | [], .returning, w, h => by
    obtain ⟨v, h1, h2⟩ := h
    exact ⟨v, by rw [← ht]; exact h1, h2⟩
  | [], .panicking ch, w, h => h
  | [], .run, _, h => h
  | d :: ds, u, w, h => by
    obtain ⟨h1, fv, cap, f, args, h2, h3, h4⟩ := h
    refine ⟨h1, fv, cap, f, args, h2, h3, h4.mono fun e u' w' hh => ?_⟩
    cases e with
    | returned v => exact leaves_tmps ht ds _ w' hh
    | panicked ch => exact leaves_tmps ht ds _ w' hh
    | outgrown => exact hh
theorem res_put (a : Act) (n : Nat) (v : Value) (h4 : n ≠ 4) (h5 : n ≠ 5) (h6 : n ≠ 6) : results Try.f21 (a.put (some n) v).tmps = results Try.f21 a.tmps := by
 have e4 : (a.put (some n) v).tmps.getD 4 undef = a.tmps.getD 4 undef := by
  simp only [Act.put, Array.getD_eq_getD_getElem?, Array.getElem?_setIfInBounds]
  rw [if_neg h4]
 have e5 : (a.put (some n) v).tmps.getD 5 undef = a.tmps.getD 5 undef := by
  simp only [Act.put, Array.getD_eq_getD_getElem?, Array.getElem?_setIfInBounds]
  rw [if_neg h5]
 have e6 : (a.put (some n) v).tmps.getD 6 undef = a.tmps.getD 6 undef := by
  simp only [Act.put, Array.getD_eq_getD_getElem?, Array.getElem?_setIfInBounds]
  rw [if_neg h6]
 have hr : Try.f21.results = #[.cell 4 24, .cell 5 25, .cell 6 30] := Try.results21
 unfold results
 rw [hr]
 simp only [List.mapM_toArray, List.mapM_cons, List.mapM_nil, e4, e5, e6]
theorem panic_put {P : Program} {R : Ending → World → Prop} {a : Act} {w : World} {ch : List PanicEntry} {n : Nat} {v : Value} (h4 : n ≠ 4) (h5 : n ≠ 5) (h6 : n ≠ 6) (h : bodyPostD P Try.f21 R (.panic ch) (a.put (some n) v) w) : bodyPostD P Try.f21 R (.panic ch) a w := by
 have h1 : Leaves P Try.f21 (a.put (some n) v).tmps R (a.put (some n) v).defers (.panicking ch) w := h
 have h2 : Leaves P Try.f21 a.tmps R (a.put (some n) v).defers (.panicking ch) w := leaves_tmps (fun w => by rw [res_put a n v h4 h5 h6]) _ _ _ h1
 exact h2
theorem read_catch (p : Nat) (v x y : Value) (w : World) (hp : w.heap[p]? = some (.cells #[v] 24 (0, 0))) (hq : w.heap[p + 1]? = some (.cells #[x] 25 (0, 0))) (hr : w.heap[p + 2]? = some (.cells #[y] 30 (0, 0))) :
    CallsD Try.prog 54 #[.pointer (some ⟨p, 0, none⟩), .pointer (some ⟨p + 1, 0, none⟩), .pointer (some ⟨p + 2, 0, none⟩)] (.panicking gaveUp) w fun e u' w' => e = .returned (.tuple #[]) ∧ u' = .panicking [{ v := .iface 30 (.int .i64 140), recovered := true }] ∧ Below p w w' ∧ w'.heap[p]? = some (.cells #[.slice none 0 0] 24 (0, 0)) ∧ w'.heap[p + 1]? = some (.cells #[.slice none 0 0] 25 (0, 0)) ∧ w'.heap[p + 2]? = some (.cells #[.int .i64 140] 30 (0, 0)) := by
 refine callsD_of_wpS Try.func54 rfl fun c₀ cs hu => ?_
 apply wpS_seq
 apply wpS_region
 simp [wpOpsS, go_sem, recoverD, hu, gaveUp, Try.ntmps54, Exit.thenS]
 apply wpS_seq
 apply wpS_region
 simp [wpOpsS, go_sem, recoverD, hu, Try.ntmps54, Exit.thenS]
 refine wpS_cond (t := true) (by simp [Act.eval, Array.replicate]) ?_
 simp only [if_true]
 refine wpS_of_wp ?_
 have g1 : w.cell? ⟨p, 0, none⟩ = some v := (blk_cell hp 0).trans rfl
 have g3 := blk_frozen hp 0
 have hta : ∀ u : World, Sem.run Try.prog (Instr.typeAssert (.iface 30 (.int .i64 140)) 20 30 false) u = .ok (.int .i64 140) u := fun u => by kernel_rfl
 have htm : (#[Value.pointer (some ⟨p, 0, none⟩), .pointer (some ⟨p + 1, 0, none⟩), .pointer (some ⟨p + 2, 0, none⟩)] ++ ((((Array.replicate 6 undef).setIfInBounds 1 (.iface 30 (.int .i64 140))).setIfInBounds 0 (.iface 30 (.int .i64 140))).setIfInBounds 2 (.iface 30 (.int .i64 140))).setIfInBounds 3 (.bool true)) = #[.pointer (some ⟨p, 0, none⟩), .pointer (some ⟨p + 1, 0, none⟩), .pointer (some ⟨p + 2, 0, none⟩), .iface 30 (.int .i64 140), .iface 30 (.int .i64 140), .iface 30 (.int .i64 140), .bool true, undef, undef] := by rfl
 rw [htm]
 go_wp2
 have k1 : (w.setCell ⟨p, 0, none⟩ (.slice none 0 0)).heap[p]? = some (.cells #[.slice none 0 0] 24 (0, 0)) := blk_put hp 0 _ rfl
 have k2 : (w.setCell ⟨p, 0, none⟩ (.slice none 0 0)).heap[p + 1]? = some (.cells #[x] 25 (0, 0)) := blk_far hq (by show p + 1 ≠ p; omega) _
 have k2r : (w.setCell ⟨p, 0, none⟩ (.slice none 0 0)).heap[p + 2]? = some (.cells #[y] 30 (0, 0)) := blk_far hr (by show p + 2 ≠ p; omega) _
 have k3 : (w.setCell ⟨p, 0, none⟩ (.slice none 0 0)).drew.cell? ⟨p + 1, 0, none⟩ = some x := (blk_cell (blk_drew k2) 0).trans rfl
 have k4 : (w.setCell ⟨p, 0, none⟩ (.slice none 0 0)).drew.frozen? ⟨p + 1, 0, none⟩ = false := blk_frozen (blk_drew k2) 0
 have k3r : (w.setCell ⟨p, 0, none⟩ (.slice none 0 0)).drew.cell? ⟨p + 2, 0, none⟩ = some y := (blk_cell (blk_drew k2r) 0).trans rfl
 have m1 := blk_far k1 (show p ≠ (⟨p + 1, 0, none⟩ : Addr).block by show p ≠ p + 1; omega) (.slice none 0 0)
 have m2 := blk_put k2 0 (.slice none 0 0) rfl
 have m3 := blk_far k2r (show p + 2 ≠ (⟨p + 1, 0, none⟩ : Addr).block by show p + 2 ≠ p + 1; omega) (.slice none 0 0)
 have m3c : ((w.setCell ⟨p, 0, none⟩ (.slice none 0 0)).setCell ⟨p + 1, 0, none⟩ (.slice none 0 0)).drew.cell? ⟨p + 2, 0, none⟩ = some y := (blk_cell (blk_drew m3) 0).trans rfl
 have m3f := blk_frozen (blk_drew m3) 0
 have n1 := blk_far m1 (show p ≠ (⟨p + 2, 0, none⟩ : Addr).block by show p ≠ p + 2; omega) (.int .i64 140)
 have n2 := blk_far m2 (show p + 1 ≠ (⟨p + 2, 0, none⟩ : Addr).block by show p + 1 ≠ p + 2; omega) (.int .i64 140)
 have n3 := blk_put m3 0 (.int .i64 140) rfl
 have k7 : Below p w (((w.setCell ⟨p, 0, none⟩ (.slice none 0 0)).setCell ⟨p + 1, 0, none⟩ (.slice none 0 0)).setCell ⟨p + 2, 0, none⟩ (.int .i64 140)) := (((Below.refl _ w).setCell (Nat.le_refl p) _).setCell (Nat.le_succ p) _).setCell (by show p ≤ p + 2; omega) _
 refine start_ (n := 5) (S := fun u => u.cell? ⟨p + 2, 0, none⟩ = some y) (ds := [4]) (bm 5 0) (by kernel_rfl) rfl rfl ?_ (fun hHeld => ?_)
 case refine_1 => exact ((blk_cell (blk_drew hr) 0).trans rfl)
 refine pure_ (i := 0) (N := some 7) (v := ?_) (a' := ?_) (bm 5 1) rfl rfl (by kernel_rfl) (fun _ _ _ h => h) (Or.inl ⟨by rfl, ?_⟩) ?_ ?_
 rotate_left
 ·
  intro u
  go_simp
  with_reducible rfl
 rotate_left
 ·
  simp only [pz]
  rfl
 refine pure_ (i := 1) (N := some 8) (v := ?_) (a' := ?_) (bm 5 3) rfl rfl (by kernel_rfl) (fun _ _ _ h => h) (Or.inl ⟨by rfl, ?_⟩) ?_ ?_
 rotate_left
 ·
  intro u
  go_simp
  with_reducible rfl
 rotate_left
 ·
  simp only [pz]
  rfl
 refine one_ (i := 2) (N := none) (bm 5 7) rfl rfl (by kernel_rfl) (by decide) (fun K hK => ?_)
 rw [if_pos (by rfl)]
 go_simp
 refine hK.out _ _ k3r (fun hHeld => ?_)
 clear hK K
 refine one_ (i := 3) (N := none) (bm 5 15) rfl rfl (by kernel_rfl) (by decide) (fun K hK => ?_)
 rw [if_pos (by rfl)]
 go_simp
 refine hK.out _ _ m3c (fun hHeld => ?_)
 clear hK K
 refine last_ (i := 4) (N := none) (bm 5 31) rfl rfl (by kernel_rfl) (by decide) (fun K hK => ?_)
 rw [if_pos (by rfl)]
 go_simp
 refine hK.out _ _ ?_
 clear hK K
 refine done_ (by kernel_rfl) ?_
 have hres : ∀ W : World, (results Try.f54 #[.pointer (some ⟨p, 0, none⟩), .pointer (some ⟨p + 1, 0, none⟩), .pointer (some ⟨p + 2, 0, none⟩), .iface 30 (.int .i64 140), .iface 30 (.int .i64 140), .iface 30 (.int .i64 140), .bool true, .iface 30 (.int .i64 140), .int .i64 140]).run Try.prog W = .ok (.tuple #[]) W := fun W => by simp [results, Try.results54]
 exact ⟨rfl, .panicking [{ v := .iface 30 (.int .i64 140), recovered := true }], rfl, .tuple #[], hres _, rfl, rfl, below_drew k7, blk_drew n1, blk_drew n2, blk_drew n3⟩
theorem read_gives_up (w W : World) (T : Array Value) (pl : Nat) (v x y : Value) (hpl : pl = w.heap.size) (h4 : T.getD 4 undef = .pointer (some ⟨pl, 0, none⟩)) (h5 : T.getD 5 undef = .pointer (some ⟨pl + 1, 0, none⟩)) (h6 : T.getD 6 undef = .pointer (some ⟨pl + 2, 0, none⟩)) (hp : W.heap[pl]? = some (.cells #[v] 24 (0, 0))) (hq : W.heap[pl + 1]? = some (.cells #[x] 25 (0, 0))) (hr : W.heap[pl + 2]? = some (.cells #[y] 30 (0, 0))) (hB : Below pl w W) :
    bodyPostD Try.prog Try.f21 (fun e w' => ∃ v0_ v1_ : Value, e = .returned (.tuple #[v0_, v1_, .int .i64 140]) ∧ Kd.S k69 69 w' w.heap.size (fun _ => True) v0_ [] ∧ Kd.S k46 46 w' w.heap.size (fun _ => True) v1_ [] ∧ Below w.heap.size w w') (.panic gaveUp) { tmps := T, defers := [{ target := .fn (.func 54) #[.pointer (some ⟨pl, 0, none⟩), .pointer (some ⟨pl + 1, 0, none⟩), .pointer (some ⟨pl + 2, 0, none⟩)], args := #[] }] } W := by
 show Leaves _ _ _ _ _ _ _
 refine leaves_cons (f := 54) (args := #[.pointer (some ⟨pl, 0, none⟩), .pointer (some ⟨pl + 1, 0, none⟩), .pointer (some ⟨pl + 2, 0, none⟩)]) (by simp) (by simp [go_sem]) ?_
 refine (read_catch pl v x y W hp hq hr).mono ?_
 rintro e u' w6 ⟨rfl, rfl, hb, e1, e2, e3⟩
 have hb5 := hB.trans hb
 rw [← hpl]
 exact ⟨.tuple #[.slice none 0 0, .slice none 0 0, .int .i64 140], results3c (p := 4) (q := 5) (r := 6) rfl _ _ _ ⟨pl, 0, none⟩ ⟨pl + 1, 0, none⟩ ⟨pl + 2, 0, none⟩ (.slice none 0 0) (.slice none 0 0) (.int .i64 140) h4 h5 h6 Try.underlying24 Try.underlying25 Try.underlying30 ((blk_cell e1 0).trans rfl) ((blk_cell e2 0).trans rfl) ((blk_cell e3 0).trans rfl), .slice none 0 0, .slice none 0 0, rfl, Kd.S_nil _ _ _ _ _, Kd.S_nil _ _ _ _ _, hb5⟩
end Go.Proofs.Ytfgfnflhdabmcaa.EhRd
end
section
namespace Go.Proofs.Ytfgfnflhdabmcaa.EhRd
open Go.RowKit Go.Proofs.Ytfgfnflhdabmcaa.G Go.Proofs.YtfgfnflhdabmcaaW.PrintWords Go.Proofs.YtfgfnflhdabmcaaW.PrintLast Go.Proofs.YtfgfnflhdabmcaaW.PrintMore
open Go.Proofs.Ytfgfnflhdabmcaa.Own Go.ChangeMaps
open Go.Proofs.Ytfgfnflhdabmcaa.CfaRd (uR sR uR_eq sR_eq)
open Go.Proofs.Ytfgfnflhdabmcaa.EhOf (ofF)
def gR (l : List Int) (at_ : Int) : Option Int := match leb_Get.f 12 l at_ 4 false with
  | some (n, er) => if er = 0 then some n else none
  | none => none
theorem gR_eq {l : List Int} {at_ n : Int} (h : gR l at_ = some n) : leb_Get.f 12 l at_ 4 false = some (n, 0) := by
 unfold gR at h
 split at h
 ·
  split at h
  ·
   rename_i n' er he e0
   obtain rfl := Option.some.inj h
   rw [he, e0]
  cases h
 cases h
def opsV (b : List Int) : Option (List S105) := match cfa_Read.f b with
  | some (os, er) => if er = 0 ∧ os.length ≤ 100000 then some os else none
  | none => none
theorem opsV_eq {b : List Int} {os : List S105} (h : opsV b = some os) : cfa_Read.f b = some (os, 0) ∧ os.length ≤ 100000 := by
 unfold opsV at h
 split at h
 rotate_left
 ·
  cases h
 split at h
 ·
  rename_i n' er he e0
  obtain rfl := Option.some.inj h
  rw [he, e0.1]
  exact ⟨rfl, e0.2⟩
 cases h
def getV (b : List Int) (at_ enc addr : Int) : Option (Int × Int) := match ehframe_Get.f 60 b at_ enc addr 0 with
  | some (v, en, er) => if er = 0 then some (v, en) else none
  | none => none
theorem getV_eq {b : List Int} {at_ enc addr v en : Int} (h : getV b at_ enc addr = some (v, en)) : ehframe_Get.f 60 b at_ enc addr 0 = some (v, en, 0) := by
 unfold getV at h
 split at h
 rotate_left
 ·
  cases h
 split at h
 ·
  rename_i v' en' er he e0
  simp only [Option.some.injEq, Prod.mk.injEq] at h
  obtain ⟨rfl, rfl⟩ := h
  rw [he, e0]
 cases h
/-- a common entry's record -/
def cieV (b : List Int) : Option S69 :=
  if b.length ≤ 2097152 ∧ 8 ≤ b.length ∧ (b.take 8).drop 4 = [1, 122, 82, 0] then
    (uR b 8).bind fun p1 => (sR b p1.2).bind fun p2 => (uR b p2.2).bind fun p3 => (uR b p3.2).bind fun p4 =>
      if p1.1 = 1 ∧ p2.1 = -8 ∧ p3.1 = 16 ∧ p4.1 = 1 ∧ 0 ≤ p4.2 ∧ p4.2 < b.length ∧ 0 ≤ rd b p4.2 ∧ rd b p4.2 ≤ 255 ∧ (ofF (rd b p4.2)).2.2.2 = true then
        (opsV (b.drop (p4.2.toNat + 1))).bind fun os => some ⟨rd b p4.2, trim os⟩
      else none
  else none
theorem cie_calls (w0 w : World) (g m : Nat) (A0 : Option Addr) (n0 c0 : Nat) (addr : Int) (cs : List S69) (fs : List S46) (pm : List (Int × Int)) (h : St w0 w g m A0 n0 c0 addr cs fs pm) (A : Option Addr) (c : Nat) (b : List Int) (hC : Kd.C (Kd.int .u8) w0 A b.length b) (hc : b.length ≤ c) (x : S69) (hx : cieV b = some x) (first : Int) (hf : 0 ≤ first ∧ first ≤ 2097152) (hcl : cs.length ≤ 2097152) (hpl : pm.length ≤ 2097152) :
    Calls Try.prog 56 #[.pointer (some ⟨g, 0, none⟩), .slice A b.length c, .int .i64 first] w fun e w' => e = .returned (.tuple #[]) ∧ St w0 w' g m A0 n0 c0 addr (cs ++ [x]) fs ((first, (cs.length : Int)) :: pm) := by
 unfold cieV at hx
 split at hx
 rotate_left
 ·
  cases hx
 rename_i h0
 obtain ⟨⟨n1, e1⟩, u1, hx⟩ := Option.bind_eq_some_iff.1 hx
 obtain ⟨⟨n2, e2⟩, u2, hx⟩ := Option.bind_eq_some_iff.1 hx
 obtain ⟨⟨n3, e3⟩, u3, hx⟩ := Option.bind_eq_some_iff.1 hx
 obtain ⟨⟨n4, e4⟩, u4, hx⟩ := Option.bind_eq_some_iff.1 hx
 split at hx
 rotate_left
 ·
  cases hx
 rename_i h1
 obtain ⟨os, u5, hx⟩ := Option.bind_eq_some_iff.1 hx
 obtain rfl := Option.some.inj hx
 obtain ⟨e1, e2, e3, e4, h4, h5, h6, h7, h8⟩ := h1
 simp only at e1 e2 e3 e4 h4 h5 h6 h7 h8 u1 u2 u3 u4 u5
 subst e1 e2 e3 e4
 exact cie_ok w0 w g m A0 n0 c0 addr cs fs pm h A c b hC hc h0.1 h0.2.1 h0.2.2 _ _ _ _ (uR_eq u1) (sR_eq u2) (uR_eq u3) (uR_eq u4) h4 h5 _ rfl ⟨h6, h7⟩ _ _ _ (by rw [← h8]; rfl) os (opsV_eq u5).1 (opsV_eq u5).2 first hf hcl hpl
/-- a function's entry's record -/
def fdeV (addr : Int) (cs : List S69) (pm : List (Int × Int)) (place id : Int) (b : List Int) : Option S46 :=
  (lookI pm (wrap64 (place - id))).bind fun kq => if 0 ≤ kq ∧ kq < cs.length then
    (getV b 4 (rd_T69 cs kq).f0 (wrap64 (addr + place))).bind fun p1 => (getV b p1.2 (Go.bits .and .i64 (rd_T69 cs kq).f0 15) 0).bind fun p2 => (uR b p2.2).bind fun p3 =>
      if p3.1 = 0 ∧ 0 ≤ p3.2 ∧ p3.2 ≤ b.length then (opsV (b.drop p3.2.toNat)).bind fun os => some ⟨kq, p1.1, p2.1, trim os⟩ else none
  else none
theorem wrap64_range (a : Int) : -9223372036854775808 ≤ wrap64 a ∧ wrap64 a ≤ 9223372036854775807 := by unfold wrap64; omega
theorem fde_calls (w0 w : World) (g m : Nat) (A0 : Option Addr) (n0 c0 : Nat) (addr : Int) (cs : List S69) (fs : List S46) (pm : List (Int × Int)) (h : St w0 w g m A0 n0 c0 addr cs fs pm) (A : Option Addr) (c : Nat) (b : List Int) (hC : Kd.C (Kd.int .u8) w0 A b.length b) (hc : b.length ≤ c) (place id : Int) (x : S46) (hx : fdeV addr cs pm place id b = some x) (hfl : fs.length ≤ 2097152) :
    Calls Try.prog 57 #[.pointer (some ⟨g, 0, none⟩), .slice A b.length c, .int .i64 place, .int .i64 id] w fun e w' => e = .returned (.tuple #[]) ∧ St w0 w' g m A0 n0 c0 addr cs (fs ++ [x]) pm := by
 unfold fdeV at hx
 obtain ⟨kq, hl, hx⟩ := Option.bind_eq_some_iff.1 hx
 split at hx
 rotate_left
 ·
  cases hx
 rename_i h0
 obtain ⟨⟨v1, e1⟩, u1, hx⟩ := Option.bind_eq_some_iff.1 hx
 obtain ⟨⟨v2, e2⟩, u2, hx⟩ := Option.bind_eq_some_iff.1 hx
 obtain ⟨⟨n3, e3⟩, u3, hx⟩ := Option.bind_eq_some_iff.1 hx
 split at hx
 rotate_left
 ·
  cases hx
 rename_i h1
 obtain ⟨os, u5, hx⟩ := Option.bind_eq_some_iff.1 hx
 obtain rfl := Option.some.inj hx
 obtain ⟨e3, h4, h5⟩ := h1
 simp only at e3 h4 h5 u1 u2 u3 u5
 subst e3
 exact fde_ok w0 w g m A0 n0 c0 addr cs fs pm h A c b hC hc place id _ kq rfl (wrap64_range _) hl h0.1 h0.2 _ _ rfl rfl 60 v1 v2 e1 e2 _ _ rfl (getV_eq u1) (getV_eq u2) (uR_eq u3) h4 h5 os (opsV_eq u5).1 (opsV_eq u5).2 hfl
def finV (cs : List S69) (fs : List S46) : Option (List S69 × List S46 × Int) := if ehframe_Check.f 0 cs fs = some 0 then some (cs, fs, 0) else none
theorem finV_eq {cs r1 : List S69} {fs r2 : List S46} {r3 : Int} (h : finV cs fs = some (r1, r2, r3)) : cs = r1 ∧ fs = r2 ∧ 0 = r3 ∧ ehframe_Check.f 0 cs fs = some 0 := by
 unfold finV at h
 split at h
 ·
  rename_i hc
  have := Option.some.inj h
  simp only [Prod.mk.injEq] at this
  exact ⟨this.1, this.2.1, this.2.2, hc⟩
 cases h
theorem below_at {w W : World} {B p : Nat} {o : Obj} (hb : Below B w W) (h : w.heap[p]? = some o) (hp : p < B) : W.heap[p]? = some o := (hb.block p hp).trans h
theorem final_ {W : World} {p g m n0 c0 : Nat} {A0 : Option Addr} {addr : Int} {v x y : Value} (hp : W.heap[p]? = some (.cells #[v] 24 (0, 0))) (hq : W.heap[p + 1]? = some (.cells #[x] 25 (0, 0))) (hr : W.heap[p + 1 + 1]? = some (.cells #[y] 30 (0, 0))) (vc vf : Value) (hg : Cells W g m A0 n0 c0 addr vc vf) (hne : p + 1 + 1 < g) :
    W.cell? ⟨p, 0, none⟩ = some v ∧ W.frozen? ⟨p, 0, none⟩ = false ∧ (W.setCell ⟨p, 0, none⟩ vc).cell? ⟨p + 1, 0, none⟩ = some x ∧ (W.setCell ⟨p, 0, none⟩ vc).frozen? ⟨p + 1, 0, none⟩ = false ∧
    ((W.setCell ⟨p, 0, none⟩ vc).setCell ⟨p + 1, 0, none⟩ vf).cell? ⟨p + 1 + 1, 0, none⟩ = some y ∧ ((W.setCell ⟨p, 0, none⟩ vc).setCell ⟨p + 1, 0, none⟩ vf).frozen? ⟨p + 1 + 1, 0, none⟩ = false ∧
    ((W.setCell ⟨p, 0, none⟩ vc).cell? ⟨g, 2, none⟩ = some vc ∧ (W.setCell ⟨p, 0, none⟩ vc).cell? ⟨g, 3, none⟩ = some vf) ∧
    (((W.setCell ⟨p, 0, none⟩ vc).setCell ⟨p + 1, 0, none⟩ vf).cell? ⟨g, 2, none⟩ = some vc ∧ ((W.setCell ⟨p, 0, none⟩ vc).setCell ⟨p + 1, 0, none⟩ vf).cell? ⟨g, 3, none⟩ = some vf) ∧
    W.cell? ⟨p + 1, 0, none⟩ = some x ∧ W.cell? ⟨p + 1 + 1, 0, none⟩ = some y ∧
    (((W.setCell ⟨p, 0, none⟩ vc).setCell ⟨p + 1, 0, none⟩ vf).setCell ⟨p + 1 + 1, 0, none⟩ (.int .i64 0)).heap[p]? = some (.cells #[vc] 24 (0, 0)) ∧
    (((W.setCell ⟨p, 0, none⟩ vc).setCell ⟨p + 1, 0, none⟩ vf).setCell ⟨p + 1 + 1, 0, none⟩ (.int .i64 0)).heap[p + 1]? = some (.cells #[vf] 25 (0, 0)) ∧
    (((W.setCell ⟨p, 0, none⟩ vc).setCell ⟨p + 1, 0, none⟩ vf).setCell ⟨p + 1 + 1, 0, none⟩ (.int .i64 0)).heap[p + 1 + 1]? = some (.cells #[.int .i64 0] 30 (0, 0)) := by
 have a0 := blk_put hp 0 vc rfl
 have a1 := blk_far hq (show p + 1 ≠ (⟨p, 0, none⟩ : Addr).block by show p + 1 ≠ p; omega) vc
 have a2 := blk_far hr (show p + 1 + 1 ≠ (⟨p, 0, none⟩ : Addr).block by show p + 1 + 1 ≠ p; omega) vc
 have a3 := blk_far hg (show g ≠ (⟨p, 0, none⟩ : Addr).block by show g ≠ p; omega) vc
 have b0 := blk_far a0 (show p ≠ (⟨p + 1, 0, none⟩ : Addr).block by show p ≠ p + 1; omega) vf
 have b1 := blk_put a1 0 vf rfl
 have b2 := blk_far a2 (show p + 1 + 1 ≠ (⟨p + 1, 0, none⟩ : Addr).block by show p + 1 + 1 ≠ p + 1; omega) vf
 have b3 := blk_far a3 (show g ≠ (⟨p + 1, 0, none⟩ : Addr).block by show g ≠ p + 1; omega) vf
 have d0 := blk_far b0 (show p ≠ (⟨p + 1 + 1, 0, none⟩ : Addr).block by show p ≠ p + 1 + 1; omega) (.int .i64 0)
 have d1 := blk_far b1 (show p + 1 ≠ (⟨p + 1 + 1, 0, none⟩ : Addr).block by show p + 1 ≠ p + 1 + 1; omega) (.int .i64 0)
 have d2 := blk_put b2 0 (.int .i64 0) rfl
 exact ⟨(blk_cell hp 0).trans rfl, blk_frozen hp 0, (blk_cell a1 0).trans rfl, blk_frozen a1 0, (blk_cell b2 0).trans rfl, blk_frozen b2 0, ⟨(blk_cell a3 2).trans rfl, (blk_cell a3 3).trans rfl⟩, ⟨(blk_cell b3 2).trans rfl, (blk_cell b3 3).trans rfl⟩, (blk_cell hq 0).trans rfl, (blk_cell hr 0).trans rfl, d0, d1, d2⟩
theorem ended_ {w w0 W : World} {g m n0 c0 pl : Nat} {A0 : Option Addr} {addr : Int} {cs : List S69} {fs : List S46} {pm : List (Int × Int)} {vc vf a b d : Value} (h : StV w0 W g m A0 n0 c0 addr cs fs pm vc vf) (hs : w0.heap.size = pl + 1 + 1 + 1) (hpl : pl = w.heap.size) (hb : Below w.heap.size w w0) :
    Kd.S k69 69 (((W.setCell ⟨pl, 0, none⟩ a).setCell ⟨pl + 1, 0, none⟩ b).setCell ⟨pl + 1 + 1, 0, none⟩ d) w.heap.size (fun _ => True) vc cs ∧ Kd.S k46 46 (((W.setCell ⟨pl, 0, none⟩ a).setCell ⟨pl + 1, 0, none⟩ b).setCell ⟨pl + 1 + 1, 0, none⟩ d) w.heap.size (fun _ => True) vf fs ∧ Below w.heap.size w (((W.setCell ⟨pl, 0, none⟩ a).setCell ⟨pl + 1, 0, none⟩ b).setCell ⟨pl + 1 + 1, 0, none⟩ d) := by
 have hle : w.heap.size ≤ w0.heap.size := by omega
 have far : ∀ {α : Type} {dk : Kd α} {e : Nat} {v : Value} {xs : List α}, Kd.S dk e W w0.heap.size (fun _ => True) v xs → Kd.S dk e (((W.setCell ⟨pl, 0, none⟩ a).setCell ⟨pl + 1, 0, none⟩ b).setCell ⟨pl + 1 + 1, 0, none⟩ d) w.heap.size (fun _ => True) v xs := by
  intro α dk e v xs hS
  have h1 := Kd.S_mono (ok' := fun k => w0.heap.size ≤ k) (Kd.S_bound hS) (fun k hk => hk.2.1)
  have h2 := Kd.S_far (Kd.S_far (Kd.S_far h1 (p := ⟨pl, 0, none⟩) (fun k hk => by show k ≠ pl; omega) a) (p := ⟨pl + 1, 0, none⟩) (fun k hk => by show k ≠ pl + 1; omega) b) (p := ⟨pl + 1 + 1, 0, none⟩) (fun k hk => by show k ≠ pl + 1 + 1; omega) d
  exact Kd.S_mono (Kd.S_lower h2 hle) (fun _ _ => trivial)
 exact ⟨far h.hc, far h.hf, (((hb.trans (h.hb.mono hle)).setCell (by show w.heap.size ≤ pl; omega) _).setCell (by show w.heap.size ≤ pl + 1; omega) _).setCell (by show w.heap.size ≤ pl + 1 + 1; omega) _⟩
theorem St.hb {w0 w : World} {g m n0 c0 : Nat} {A0 : Option Addr} {addr : Int} {cs : List S69} {fs : List S46} {pm : List (Int × Int)} (h : St w0 w g m A0 n0 c0 addr cs fs pm) : Below w0.heap.size w0 w := by
 obtain ⟨_, _, h⟩ := h
 exact h.hb
def readR (l : List Int) (addr : Int) : Nat → Int → List S69 → List S46 → List (Int × Int) → Option (List S69 × List S46 × Int)
  | 0, _, _, _, _ => none
  | k + 1, at_, cs, fs, pm => if at_ < (l.length : Int) then
      (if 0 ≤ at_ then (gR l at_).bind fun n =>
        if n = 0 then (if at_ + 4 = (l.length : Int) then finV cs fs else none)
        else if Int.tmod n 4 = 0 ∧ 0 ≤ n then
          (if (l.length : Int) - at_ - 4 < n then some ([], [], 140)
          else (gR ((l.take (at_ + 4 + n).toNat).drop (at_ + 4).toNat) 0).bind fun id =>
            if id = 0 then (cieV ((l.take (at_ + 4 + n).toNat).drop (at_ + 4).toNat)).bind fun x => if cs.length ≤ 2097152 ∧ pm.length ≤ 2097152 then readR l addr k (at_ + 4 + n) (cs ++ [x]) fs ((at_, (cs.length : Int)) :: pm) else none
            else (fdeV addr cs pm (at_ + 4) id ((l.take (at_ + 4 + n).toNat).drop (at_ + 4).toNat)).bind fun x => if fs.length ≤ 2097152 then readR l addr k (at_ + 4 + n) cs (fs ++ [x]) pm else none)
        else none
      else none)
    else finV cs fs
def readF (l : List Int) (addr : Int) : Option (List S69 × List S46 × Int) := if l.length ≤ 1048576 ∧ 0 ≤ addr ∧ addr ≤ 576460752303423488 then readR l addr (l.length + 1) 0 [] [] [] else none
def Post (w : World) (r1 : List S69) (r2 : List S46) (r3 : Int) (e : Ending) (w' : World) : Prop := ∃ v0_ v1_ : Value, e = .returned (.tuple #[v0_, v1_, .int .i64 r3]) ∧ Kd.S k69 69 w' w.heap.size (fun _ => True) v0_ r1 ∧ Kd.S k46 46 w' w.heap.size (fun _ => True) v1_ r2 ∧ Below w.heap.size w w'
set_option maxHeartbeats 4000000 in
theorem read_calls (A0 : Option Addr) (c0 : Nat) (l0 : List Int) (addr : Int) (r1 : List S69) (r2 : List S46) (r3 : Int) (w : World) (hr0 : Kd.C (Kd.int .u8) w A0 l0.length l0) (hc0 : l0.length ≤ c0) (h : readF l0 addr = some (r1, r2, r3)) :
    Calls Try.prog 21 #[.slice A0 l0.length c0, .int .i64 addr] w (Post w r1 r2 r3) := by
 unfold readF at h
 split at h
 case isFalse => cases h
 rename_i hh
 obtain ⟨hlen, ha0, ha1⟩ := hh
 have HR0 := am hr0
 have HC0 := am hc0
 have HL := am hlen
 have f0 : decide ((l0.length : Int) > 1048576) = false := decide_eq_false (by omega)
 have f0b : decide (1048576 < l0.length) = false := decide_eq_false (by omega)
 have f1 : decide (addr < 0) = false := decide_eq_false (by omega)
 have f2 : decide (addr > 576460752303423488) = false := decide_eq_false (by omega)
 have f2b : decide (576460752303423488 < addr) = false := f2
 obtain ⟨K, hK⟩ : ∃ K, K = l0.length + 1 := ⟨_, rfl⟩
 rw [← hK] at h
 have HH := am h
 have hmf : ∀ (fn : Fn) (first cap : Array Value) (w : World), (Instr.makeFunc fn first cap).run Try.prog w = .ok (.func fn first cap) w := fun _ _ _ _ => rfl
 clear hr0 hc0 h hlen ha0 ha1
 go_enter_defers Try.func21, Try.ntmps21
 have hmm := @run_makeMap_plain Try.prog
 go_wp2
 obtain ⟨pl, hpl⟩ : ∃ pl, pl = w.heap.size := ⟨_, rfl⟩
 obtain ⟨w0, hw0⟩ : ∃ w0, w0 = ((w.alloc (.cells #[.slice none 0 0] 24)).alloc (.cells #[.slice none 0 0] 25)).alloc (.cells #[.int .i64 0] 30) := ⟨_, rfl⟩
 have hs0 : w0.heap.size = pl + 1 + 1 + 1 := by rw [hw0, hpl, World.size_alloc, World.size_alloc, World.size_alloc]
 have hp0 : w0.heap[pl]? = some (.cells #[.slice none 0 0] 24 (0, 0)) := by
  rw [hw0, hpl]
  exact blk_alloc (blk_alloc (blk_new w _) _) _
 have hp1 : w0.heap[pl + 1]? = some (.cells #[.slice none 0 0] 25 (0, 0)) := by
  rw [hw0, hpl]
  have := blk_new (w.alloc (.cells #[.slice none 0 0] 24)) (.cells #[.slice none 0 0] 25)
  rw [World.size_alloc] at this
  exact blk_alloc this _
 have hp2 : w0.heap[pl + 1 + 1]? = some (.cells #[.int .i64 0] 30 (0, 0)) := by
  rw [hw0, hpl]
  have := blk_new ((w.alloc (.cells #[.slice none 0 0] 24)).alloc (.cells #[.slice none 0 0] 25)) (.cells #[.int .i64 0] 30)
  rw [World.size_alloc, World.size_alloc] at this
  exact this
 have hb0 : Below w.heap.size w w0 := by
  rw [hw0]
  exact below_alloc (below_alloc (below_alloc (Below.refl _ _) _) _) _
 have hst0 : St w0 ((w0.alloc (.map #[] 0)).alloc (.cells #[.slice A0 l0.length c0, .int .i64 addr, .slice none 0 0, .slice none 0 0, .map (some w0.heap.size)] 101)) (w0.heap.size + 1) w0.heap.size A0 l0.length c0 addr [] [] [] := by
  refine ⟨.slice none 0 0, .slice none 0 0, { blk := ?_, hc := Kd.S_nil _ _ _ _ _, hf := Kd.S_nil _ _ _ _ _, hm := ?_, lg := Nat.le_succ _, lm := Nat.le_refl _, ne := by omega, hb := below_alloc (below_alloc (Below.refl _ _) _) _ }⟩
  ·
   have := blk_new (w0.alloc (.map #[] 0)) (.cells #[.slice A0 l0.length c0, .int .i64 addr, .slice none 0 0, .slice none 0 0, .map (some w0.heap.size)] 101)
   rw [World.size_alloc] at this
   exact this
  rw [intF_nil]
  exact (MapF.made Try.prog 3 3 w0).kept (grown_of_below (below_alloc (Below.refl _ _) _) none) (Option.some_ne_none _)
 rw [hs0] at hst0
 rw [← hw0, ← hpl]
 have HST := am hst0
 have HP0 := am hp0
 have HP1 := am hp1
 have HP2 := am hp2
 have HB0 := am hb0
 have HS0 := am hs0
 have HPL := am hpl
 have HC := am (Kd.C_below HR0.out hb0)
 clear hst0 hp0 hp1 hp2 hb0 hs0 hpl hw0 f0 f0b f1 f2 f2b hmf hmm
 go_loopg [8] K (fun kq v8 w' => ∃ (at_ : Int) (cs : List S69) (fs : List S46) (pm : List (Int × Int)), v8 = .int .i64 at_ ∧ Aside0 (readR l0 addr kq at_ cs fs pm = some (r1, r2, r3)) ∧ Aside0 (St w0 w' (pl + 1 + 1 + 1 + 1) (pl + 1 + 1 + 1) A0 l0.length c0 addr cs fs pm))
 case atStart => exact ⟨0, [], [], [], rfl, HH, HST⟩
 case round =>
  clear HST HH
  obtain ⟨at_, cs, fs, pm, rfl, HH, HST⟩ := hrel
  cases gk with
  | zero => exact absurd HH.out (by simp [readR])
  | succ k1 =>
   have H := HH.out
   clear HH
   rw [readR] at H
   by_cases c1 : at_ < (l0.length : Int)
   rotate_left
   ·
    rw [if_neg c1] at H
    have e1 : decide (at_ < (l0.length : Int)) = false := decide_eq_false c1
    obtain ⟨rfl, rfl, rfl, hfc⟩ := finV_eq H
    clear H c1
    have HFC := am hfc
    clear hfc
    obtain ⟨vc, vf, hst⟩ := HST.out
    obtain ⟨Av, cv, rfl⟩ := Kd.S_slice hst.hc
    obtain ⟨Af, cf, rfl⟩ := Kd.S_slice hst.hf
    have HST2 := am hst
    have g2 : wr.cell? ⟨pl + 1 + 1 + 1 + 1, 2, none⟩ = some (.slice Av cs.length cv) := (blk_cell hst.blk 2).trans rfl
    have g3 : wr.cell? ⟨pl + 1 + 1 + 1 + 1, 3, none⟩ = some (.slice Af fs.length cf) := (blk_cell hst.blk 3).trans rfl
    clear hst HST
    go_wp2
    refine start_ (n := 12) (S := fun u => u.cell? ⟨pl + 1 + 1 + 1 + 1, 2, none⟩ = some (.slice Av cs.length cv) ∧ u.cell? ⟨pl + 1 + 1 + 1 + 1, 3, none⟩ = some (.slice Af fs.length cf)) (ds := [11]) (bm 12 0) (by kernel_rfl) rfl rfl ?_ (fun hHeld => ?_)
    case refine_1 => exact ⟨by go_simp, by go_simp⟩
    refine pure_ (i := 0) (N := some 98) (v := ?_) (a' := ?_) (bm 12 1) rfl rfl (by kernel_rfl) (fun _ _ _ h => panic_put (by decide) (by decide) (by decide) h) (Or.inl ⟨by rfl, ?_⟩) ?_ ?_
    rotate_left
    ·
     intro u
     go_simp
     with_reducible rfl
    rotate_left
    ·
     simp only [pz]
     rfl
    refine pure_ (i := 1) (N := some 99) (v := ?_) (a' := ?_) (bm 12 3) rfl rfl (by kernel_rfl) (fun _ _ _ h => panic_put (by decide) (by decide) (by decide) h) (Or.inl ⟨by rfl, ?_⟩) ?_ ?_
    rotate_left
    ·
     intro u
     go_simp
     with_reducible rfl
    rotate_left
    ·
     simp only [pz]
     rfl
    refine pure_ (i := 2) (N := some 100) (v := ?_) (a' := ?_) (bm 12 7) rfl rfl (by kernel_rfl) (fun _ _ _ h => panic_put (by decide) (by decide) (by decide) h) (Or.inl ⟨by rfl, ?_⟩) ?_ ?_
    rotate_left
    ·
     intro u
     go_simp
     with_reducible rfl
    rotate_left
    ·
     simp only [pz]
     rfl
    refine pure_ (i := 3) (N := some 101) (v := ?_) (a' := ?_) (bm 12 15) rfl rfl (by kernel_rfl) (fun _ _ _ h => panic_put (by decide) (by decide) (by decide) h) (Or.inl ⟨by rfl, ?_⟩) ?_ ?_
    rotate_left
    ·
     intro u
     go_simp
     with_reducible rfl
    rotate_left
    ·
     simp only [pz]
     rfl
    refine take_ (i := 4) (N := some 102) (v := ?_) (a' := ?_) (bm 12 31) rfl rfl (by kernel_rfl) (fun _ _ _ h => panic_put (by decide) (by decide) (by decide) h) (Or.inl ⟨by rfl, ?_⟩) hHeld ?_ ?_
    rotate_left
    ·
     rintro u ⟨s0, s1⟩
     go_simp
     with_reducible rfl
    rotate_left
    ·
     simp only [pz]
     rfl
    refine pure_ (i := 5) (N := some 103) (v := ?_) (a' := ?_) (bm 12 63) rfl rfl (by kernel_rfl) (fun _ _ _ h => panic_put (by decide) (by decide) (by decide) h) (Or.inl ⟨by rfl, ?_⟩) ?_ ?_
    rotate_left
    ·
     intro u
     go_simp
     with_reducible rfl
    rotate_left
    ·
     simp only [pz]
     rfl
    refine pure_ (i := 6) (N := some 104) (v := ?_) (a' := ?_) (bm 12 127) rfl rfl (by kernel_rfl) (fun _ _ _ h => panic_put (by decide) (by decide) (by decide) h) (Or.inl ⟨by rfl, ?_⟩) ?_ ?_
    rotate_left
    ·
     intro u
     go_simp
     with_reducible rfl
    rotate_left
    ·
     simp only [pz]
     rfl
    refine pure_ (i := 7) (N := some 105) (v := ?_) (a' := ?_) (bm 12 255) rfl rfl (by kernel_rfl) (fun _ _ _ h => panic_put (by decide) (by decide) (by decide) h) (Or.inl ⟨by rfl, ?_⟩) ?_ ?_
    rotate_left
    ·
     intro u
     go_simp
     with_reducible rfl
    rotate_left
    ·
     simp only [pz]
     rfl
    refine take_ (i := 8) (N := some 106) (v := ?_) (a' := ?_) (bm 12 511) rfl rfl (by kernel_rfl) (fun _ _ _ h => panic_put (by decide) (by decide) (by decide) h) (Or.inl ⟨by rfl, ?_⟩) hHeld ?_ ?_
    rotate_left
    ·
     rintro u ⟨s0, s1⟩
     go_simp
     with_reducible rfl
    rotate_left
    ·
     simp only [pz]
     rfl
    refine one_ (i := 9) (N := some 107) (bm 12 1023) rfl rfl (by kernel_rfl) (by decide) (fun K hK => ?_)
    refine goes_ Try.func12 (by kernel_rfl) rfl #[.slice Av cs.length cv, .slice Af fs.length cf] (by rfl) rfl rfl (by (try simp only [ml]); first | done | rfl) ?_
    refine (ehframe_Check.calls 0 Av cv cs Af cf fs 0 _ (Kd.S_reads' HST2.out.drew.hc).2.2 (Kd.S_reads' HST2.out.drew.hc).2.1 (Kd.S_reads' HST2.out.drew.hf).2.2 (Kd.S_reads' HST2.out.drew.hf).2.1 HFC.out).mono ?_
    rintro e wx ⟨rfl, hb⟩
    refine ⟨_, rfl, ?_⟩
    have HST3 := am (HST2.out.drew.below hb)
    have g4 : wx.cell? ⟨pl + 1 + 1 + 1 + 1, 2, none⟩ = some (.slice Av cs.length cv) := (blk_cell HST3.out.blk 2).trans rfl
    have g5 : wx.cell? ⟨pl + 1 + 1 + 1 + 1, 3, none⟩ = some (.slice Af fs.length cf) := (blk_cell HST3.out.blk 3).trans rfl
    clear hb hHeld g2 g3
    refine hK.out _ _ ⟨g4, g5⟩ (fun hHeld => ?_)
    clear hK K
    refine norm_ (a' := ?_) ?_ ?_
    rotate_left
    ·
     show Act.put _ (some 107) _ = _
     simp only [pz]
     rfl
    refine pure_ (i := 10) (N := some 108) (v := ?_) (a' := ?_) (bm 12 2047) rfl rfl (by kernel_rfl) (fun _ _ _ h => panic_put (by decide) (by decide) (by decide) h) (Or.inl ⟨by rfl, ?_⟩) ?_ ?_
    rotate_left
    ·
     intro u
     go_simp
     with_reducible rfl
    rotate_left
    ·
     simp only [pz]
     rfl
    refine last_ (i := 11) (N := some 109) (bm 12 4095) rfl rfl (by kernel_rfl) (by decide) (fun K hK => ?_)
    refine goes_ Try.func55 (by kernel_rfl) rfl #[.pointer (some ⟨pl + 1 + 1 + 1 + 1, 0, none⟩), .bool false] (by rfl) rfl rfl (by (try simp only [ml]); first | done | rfl) ?_
    refine (fail_no _ _).mono ?_
    rintro e wy ⟨rfl, hwy⟩
    subst hwy
    refine ⟨_, rfl, ?_⟩
    clear hHeld
    refine hK.out _ _ ?_
    clear hK K
    refine done_ (by kernel_rfl) ?_
    go_wp2
    have hp0 : wy.drew.heap[pl]? = some (.cells #[.slice none 0 0] 24 (0, 0)) := blk_drew (below_at HST3.out.hb HP0.out (by have := HS0.out; omega))
    have hp1 : wy.drew.heap[pl + 1]? = some (.cells #[.slice none 0 0] 25 (0, 0)) := blk_drew (below_at HST3.out.hb HP1.out (by have := HS0.out; omega))
    have hp2 : wy.drew.heap[pl + 1 + 1]? = some (.cells #[.int .i64 0] 30 (0, 0)) := blk_drew (below_at HST3.out.hb HP2.out (by have := HS0.out; omega))
    obtain ⟨x0, x1, x2, x3, x4, x5, x6, x7, x8, x9, x10, x11, x12⟩ := final_ hp0 hp1 hp2 (.slice Av cs.length cv) (.slice Af fs.length cf) HST3.out.drew.blk (by omega)
    have HX10 := am x10
    have HX11 := am x11
    have HX12 := am x12
    have HSTD := am HST3.out.drew
    clear hp0 hp1 hp2 x10 x11 x12
    refine start_ (n := 11) (S := fun u => u.cell? ⟨pl + 1 + 1 + 1 + 1, 2, none⟩ = some (.slice Av cs.length cv) ∧ u.cell? ⟨pl + 1 + 1 + 1 + 1, 3, none⟩ = some (.slice Af fs.length cf)) (ds := [10]) (bm 11 0) (by kernel_rfl) rfl rfl ?_ (fun hHeld => ?_)
    case refine_1 => exact ⟨by go_simp, by go_simp⟩
    refine pure_ (i := 0) (N := some 110) (v := ?_) (a' := ?_) (bm 11 1) rfl rfl (by kernel_rfl) (fun _ _ _ h => panic_put (by decide) (by decide) (by decide) h) (Or.inl ⟨by rfl, ?_⟩) ?_ ?_
    rotate_left
    ·
     intro u
     go_simp
     with_reducible rfl
    rotate_left
    ·
     simp only [pz]
     rfl
    refine pure_ (i := 1) (N := some 111) (v := ?_) (a' := ?_) (bm 11 3) rfl rfl (by kernel_rfl) (fun _ _ _ h => panic_put (by decide) (by decide) (by decide) h) (Or.inl ⟨by rfl, ?_⟩) ?_ ?_
    rotate_left
    ·
     intro u
     go_simp
     with_reducible rfl
    rotate_left
    ·
     simp only [pz]
     rfl
    refine pure_ (i := 2) (N := some 112) (v := ?_) (a' := ?_) (bm 11 7) rfl rfl (by kernel_rfl) (fun _ _ _ h => panic_put (by decide) (by decide) (by decide) h) (Or.inl ⟨by rfl, ?_⟩) ?_ ?_
    rotate_left
    ·
     intro u
     go_simp
     with_reducible rfl
    rotate_left
    ·
     simp only [pz]
     rfl
    refine take_ (i := 3) (N := some 113) (v := ?_) (a' := ?_) (bm 11 15) rfl rfl (by kernel_rfl) (fun _ _ _ h => panic_put (by decide) (by decide) (by decide) h) (Or.inl ⟨by rfl, ?_⟩) hHeld ?_ ?_
    rotate_left
    ·
     rintro u ⟨s0, s1⟩
     go_simp
     with_reducible rfl
    rotate_left
    ·
     simp only [pz]
     rfl
    refine pure_ (i := 4) (N := some 114) (v := ?_) (a' := ?_) (bm 11 31) rfl rfl (by kernel_rfl) (fun _ _ _ h => panic_put (by decide) (by decide) (by decide) h) (Or.inl ⟨by rfl, ?_⟩) ?_ ?_
    rotate_left
    ·
     intro u
     go_simp
     with_reducible rfl
    rotate_left
    ·
     simp only [pz]
     rfl
    refine pure_ (i := 5) (N := some 115) (v := ?_) (a' := ?_) (bm 11 63) rfl rfl (by kernel_rfl) (fun _ _ _ h => panic_put (by decide) (by decide) (by decide) h) (Or.inl ⟨by rfl, ?_⟩) ?_ ?_
    rotate_left
    ·
     intro u
     go_simp
     with_reducible rfl
    rotate_left
    ·
     simp only [pz]
     rfl
    refine pure_ (i := 6) (N := some 116) (v := ?_) (a' := ?_) (bm 11 127) rfl rfl (by kernel_rfl) (fun _ _ _ h => panic_put (by decide) (by decide) (by decide) h) (Or.inl ⟨by rfl, ?_⟩) ?_ ?_
    rotate_left
    ·
     intro u
     go_simp
     with_reducible rfl
    rotate_left
    ·
     simp only [pz]
     rfl
    refine take_ (i := 7) (N := some 117) (v := ?_) (a' := ?_) (bm 11 255) rfl rfl (by kernel_rfl) (fun _ _ _ h => panic_put (by decide) (by decide) (by decide) h) (Or.inl ⟨by rfl, ?_⟩) hHeld ?_ ?_
    rotate_left
    ·
     rintro u ⟨s0, s1⟩
     go_simp
     with_reducible rfl
    rotate_left
    ·
     simp only [pz]
     rfl
    refine one_ (i := 8) (N := none) (bm 11 511) rfl rfl (by kernel_rfl) (by decide) (fun K hK => ?_)
    generalize wy.drew = wz at HSTD x0 x1 x2 x3 x4 x5 x6 x7 x8 x9 HX10 HX11 HX12 hHeld hK ⊢
    rw [if_pos (by rfl)]
    go_simp
    refine hK.out _ _ x6 (fun hHeld => ?_)
    clear hK K
    refine one_ (i := 9) (N := none) (bm 11 1023) rfl rfl (by kernel_rfl) (by decide) (fun K hK => ?_)
    rw [if_pos (by rfl)]
    go_simp
    refine hK.out _ _ x7 (fun hHeld => ?_)
    clear hK K
    refine last_ (i := 10) (N := none) (bm 11 2047) rfl rfl (by kernel_rfl) (by decide) (fun K hK => ?_)
    rw [if_pos (by rfl)]
    go_simp
    refine hK.out _ _ ?_
    clear hK K
    refine done_ (by kernel_rfl) ?_
    go_wp2
    refine leaves_cons (f := 54) (args := #[.pointer (some ⟨pl, 0, none⟩), .pointer (some ⟨pl + 1, 0, none⟩), .pointer (some ⟨pl + 1 + 1, 0, none⟩)]) (by simp) (by simp [go_sem]) ?_
    refine (read_idle _ _ _ _).mono ?_
    rintro e u' w6 ⟨rfl, rfl, rfl⟩
    refine ⟨.tuple #[.slice Av cs.length cv, .slice Af fs.length cf, .int .i64 0], results3c (p := 4) (q := 5) (r := 6) rfl _ _ _ ⟨pl, 0, none⟩ ⟨pl + 1, 0, none⟩ ⟨pl + 1 + 1, 0, none⟩ (.slice Av cs.length cv) (.slice Af fs.length cf) (.int .i64 0) rfl rfl rfl Try.underlying24 Try.underlying25 Try.underlying30 ((blk_cell HX10.out 0).trans rfl) ((blk_cell HX11.out 0).trans rfl) ((blk_cell HX12.out 0).trans rfl), .slice Av cs.length cv, .slice Af fs.length cf, rfl, ?_⟩
    exact ended_ HSTD.out HS0.out HPL.out HB0.out
   rw [if_pos c1] at H
   by_cases c2 : 0 ≤ at_
   rotate_left
   ·
    rw [if_neg c2] at H
    cases H
   rw [if_pos c2] at H
   obtain ⟨n, hn, H⟩ := Option.bind_eq_some_iff.1 H
   have hll := HL.out
   have HN := am (gR_eq hn)
   have e1 : decide (at_ < (l0.length : Int)) = true := decide_eq_true c1
   have HSTB := am HST.out.hb
   clear hn
   by_cases c3 : n = 0
   rotate_left
   ·
    rw [if_neg c3] at H
    by_cases c4 : Int.tmod n 4 = 0 ∧ 0 ≤ n
    rotate_left
    ·
     rw [if_neg c4] at H
     cases H
    rw [if_pos c4] at H
    have m0 : (n == 0) = false := beq_eq_false_iff_ne.mpr c3
    have m1 : (Int.tmod n 4 == 0) = true := beq_iff_eq.mpr c4.1
    have m2 := c4.1
    have hw1 : wrap64 ((l0.length : Int) - at_) = (l0.length : Int) - at_ := by unfold wrap64; omega
    have hw1i : IntKind.i64.wrap ((l0.length : Int) - at_) = (l0.length : Int) - at_ := by rw [IntKind.wrap_i64]; omega
    have hw2 : wrap64 ((l0.length : Int) - at_ - 4) = (l0.length : Int) - at_ - 4 := by unfold wrap64; omega
    have hw2i : IntKind.i64.wrap ((l0.length : Int) - at_ - 4) = (l0.length : Int) - at_ - 4 := by rw [IntKind.wrap_i64]; omega
    by_cases c5 : (l0.length : Int) - at_ - 4 < n
    ·
     rw [if_pos c5] at H
     obtain ⟨rfl, rfl, rfl⟩ : [] = r1 ∧ [] = r2 ∧ 140 = r3 := by
       have := Option.some.inj H
       simp only [Prod.mk.injEq] at this
       exact this
     have m3 : decide (n > (l0.length : Int) - at_ - 4) = true := decide_eq_true c5
     have m3b : decide ((l0.length : Int) - at_ - 4 < n) = true := m3
     clear H c1 c2 c3 c4 c5 hll
     go_wp2_with fail
     refine (leb_Get.calls 12 A0 c0 l0 at_ 4 false n 0 _ (Kd.C_below HC.out HST.out.hb) HC0.out HN.out).mono ?_
     rintro e w1 ⟨rfl, hd⟩
     have HST1 := am (HST.out.below hd.below)
     clear hd HST
     go_wp2_with fail
     refine (fail_no _ _).mono ?_
     rintro e w2 ⟨rfl, hw2_⟩
     subst hw2_
     go_wp2_with fail
     refine (fail_yes _ _).mono ?_
     rintro e w3 ⟨rfl, hw3_⟩
     subst hw3_
     have q0 := below_at HST1.out.hb HP0.out (by have := HS0.out; omega)
     have q1 := below_at HST1.out.hb HP1.out (by have := HS0.out; omega)
     have q2 := below_at HST1.out.hb HP2.out (by have := HS0.out; omega)
     have hbw : Below pl w w3 := by rw [HPL.out]; exact HB0.out.trans (HST1.out.hb.mono (by have := HS0.out; have := HPL.out; omega))
     exact read_gives_up w w3 _ pl _ _ _ HPL.out rfl rfl rfl q0 q1 q2 hbw
    rw [if_neg c5] at H
    have m3 : decide (n > (l0.length : Int) - at_ - 4) = false := decide_eq_false c5
    have m3b : decide ((l0.length : Int) - at_ - 4 < n) = false := m3
    have h4 : wrap64 (at_ + 4) = at_ + 4 := by unfold wrap64; omega
    have h4i : IntKind.i64.wrap (at_ + 4) = at_ + 4 := by rw [IntKind.wrap_i64]; omega
    have h4n : wrap64 (at_ + 4 + n) = at_ + 4 + n := by unfold wrap64; omega
    have h4ni : IntKind.i64.wrap (at_ + 4 + n) = at_ + 4 + n := by rw [IntKind.wrap_i64]; omega
    have h5 : wrap64 (4 + n) = 4 + n := by unfold wrap64; omega
    have h5i : IntKind.i64.wrap (4 + n) = 4 + n := by rw [IntKind.wrap_i64]; omega
    have h6 : wrap64 (at_ + (4 + n)) = at_ + 4 + n := by unfold wrap64; omega
    have h6i : IntKind.i64.wrap (at_ + (4 + n)) = at_ + 4 + n := by rw [IntKind.wrap_i64]; omega
    obtain ⟨A4, c4', hl4, hcut4, hC4⟩ := cut_mid1 A0 c0 l0 (at_ + 4) (at_ + 4 + n) (at_ + 4).toNat (at_ + 4 + n).toNat (by omega) (by omega) (by omega) (by omega) HC0.out
    obtain ⟨b, hb⟩ : ∃ b, (l0.take (at_ + 4 + n).toNat).drop (at_ + 4).toNat = b := ⟨_, rfl⟩
    rw [hb] at hl4 hcut4 hC4 H
    obtain ⟨id, hid, H⟩ := Option.bind_eq_some_iff.1 H
    have HID := am (gR_eq hid)
    have HL4 := am hl4
    have HC4 := am (hC4 w0 HC.out)
    have HAT := am (show 0 ≤ at_ ∧ at_ ≤ 2097152 by omega)
    clear hb hid hl4 hC4 c1 c2 c3 c4 c5 hll
    by_cases c6 : id = 0
    ·
     rw [if_pos c6] at H
     subst c6
     obtain ⟨x, hx, H⟩ := Option.bind_eq_some_iff.1 H
     by_cases c7 : cs.length ≤ 2097152 ∧ pm.length ≤ 2097152
     rotate_left
     ·
      rw [if_neg c7] at H
      cases H
     rw [if_pos c7] at H
     have HX := am hx
     have HH := am H
     have HCP := am c7
     clear hx H c7
     go_wp2_with fail
     refine (leb_Get.calls 12 A0 c0 l0 at_ 4 false n 0 _ (Kd.C_below HC.out HST.out.hb) HC0.out HN.out).mono ?_
     rintro e w1 ⟨rfl, hd⟩
     have HST1 := am (HST.out.below hd.below)
     clear hd HST
     go_wp2_with fail
     refine (fail_no _ _).mono ?_
     rintro e w2 ⟨rfl, hw2_⟩
     subst hw2_
     go_wp2_with fail
     refine (fail_no _ _).mono ?_
     rintro e w3 ⟨rfl, hw3_⟩
     subst hw3_
     go_wp2_with fail
     refine (leb_Get.calls 12 A4 c4' b 0 4 false 0 0 _ (Kd.C_below HC4.out HST1.out.hb) HL4.out HID.out).mono ?_
     rintro e w4 ⟨rfl, hd⟩
     have HST := am (HST1.out.below hd.below)
     clear hd HST1
     go_wp2_with fail
     refine (fail_no _ _).mono ?_
     rintro e w5 ⟨rfl, hw5_⟩
     subst hw5_
     go_wp2_with fail
     refine (cie_calls w0 _ (pl + 1 + 1 + 1 + 1) (pl + 1 + 1 + 1) A0 l0.length c0 addr cs fs pm HST.out A4 c4' b HC4.out HL4.out x HX.out at_ HAT.out HCP.out.1 HCP.out.2).mono ?_
     rintro e w6 ⟨rfl, hst6⟩
     have HST6 := am hst6
     clear hst6 HST
     go_wp2
     go_roundg k1
     case measure => omega
     case rel => exact ⟨at_ + 4 + n, _, _, _, rfl, HH, HST6⟩
    rw [if_neg c6] at H
    obtain ⟨x, hx, H⟩ := Option.bind_eq_some_iff.1 H
    have m5 : (id == 0) = false := beq_eq_false_iff_ne.mpr c6
    by_cases c7 : fs.length ≤ 2097152
    rotate_left
    ·
     rw [if_neg c7] at H
     cases H
    rw [if_pos c7] at H
    have HX := am hx
    have HH := am H
    have HCP := am c7
    clear hx H c7 c6
    go_wp2_with fail
    refine (leb_Get.calls 12 A0 c0 l0 at_ 4 false n 0 _ (Kd.C_below HC.out HST.out.hb) HC0.out HN.out).mono ?_
    rintro e w1 ⟨rfl, hd⟩
    have HST1 := am (HST.out.below hd.below)
    clear hd HST
    go_wp2_with fail
    refine (fail_no _ _).mono ?_
    rintro e w2 ⟨rfl, hw2_⟩
    subst hw2_
    go_wp2_with fail
    refine (fail_no _ _).mono ?_
    rintro e w3 ⟨rfl, hw3_⟩
    subst hw3_
    go_wp2_with fail
    refine (leb_Get.calls 12 A4 c4' b 0 4 false id 0 _ (Kd.C_below HC4.out HST1.out.hb) HL4.out HID.out).mono ?_
    rintro e w4 ⟨rfl, hd⟩
    have HST := am (HST1.out.below hd.below)
    clear hd HST1
    go_wp2_with fail
    refine (fail_no _ _).mono ?_
    rintro e w5 ⟨rfl, hw5_⟩
    subst hw5_
    go_wp2_with fail
    refine (fde_calls w0 _ (pl + 1 + 1 + 1 + 1) (pl + 1 + 1 + 1) A0 l0.length c0 addr cs fs pm HST.out A4 c4' b HC4.out HL4.out (at_ + 4) id x HX.out HCP.out).mono ?_
    rintro e w6 ⟨rfl, hst6⟩
    have HST6 := am hst6
    clear hst6 HST
    go_wp2
    go_roundg k1
    case measure => omega
    case rel => exact ⟨at_ + 4 + n, _, _, _, rfl, HH, HST6⟩
   rw [if_pos c3] at H
   subst c3
   by_cases c4 : at_ + 4 = (l0.length : Int)
   rotate_left
   ·
    rw [if_neg c4] at H
    cases H
   rw [if_pos c4] at H
   have hwa : wrap64 (at_ + 4) = (l0.length : Int) := by unfold wrap64; omega
   have hwi : IntKind.i64.wrap (at_ + 4) = (l0.length : Int) := by rw [IntKind.wrap_i64]; omega
   have hfc := finV_eq H
   obtain ⟨rfl, rfl, rfl, hfc⟩ := hfc
   clear H c1 c2 c4 hll
   go_wp2_with fail
   refine (leb_Get.calls 12 A0 c0 l0 at_ 4 false 0 0 _ (Kd.C_below HC.out HST.out.hb) HC0.out HN.out).mono ?_
   rintro e w1 ⟨rfl, hd⟩
   have HST1 := am (HST.out.below hd.below)
   clear hd HST
   have HST := HST1
   clear HST1
   go_wp2_with fail
   refine (fail_no _ _).mono ?_
   rintro e w2 ⟨rfl, hw2⟩
   subst hw2
   go_wp2_with fail
   refine (fail_no _ _).mono ?_
   rintro e w3 ⟨rfl, hw3⟩
   subst hw3
   have HFC := am hfc
   clear hfc
   obtain ⟨vc, vf, hst⟩ := HST.out
   obtain ⟨Av, cv, rfl⟩ := Kd.S_slice hst.hc
   obtain ⟨Af, cf, rfl⟩ := Kd.S_slice hst.hf
   have HST2 := am hst
   have g2 : w3.cell? ⟨pl + 1 + 1 + 1 + 1, 2, none⟩ = some (.slice Av cs.length cv) := (blk_cell hst.blk 2).trans rfl
   have g3 : w3.cell? ⟨pl + 1 + 1 + 1 + 1, 3, none⟩ = some (.slice Af fs.length cf) := (blk_cell hst.blk 3).trans rfl
   clear hst HST
   go_wp2
   refine start_ (n := 12) (S := fun u => u.cell? ⟨pl + 1 + 1 + 1 + 1, 2, none⟩ = some (.slice Av cs.length cv) ∧ u.cell? ⟨pl + 1 + 1 + 1 + 1, 3, none⟩ = some (.slice Af fs.length cf)) (ds := [11]) (bm 12 0) (by kernel_rfl) rfl rfl ?_ (fun hHeld => ?_)
   case refine_1 => exact ⟨by go_simp, by go_simp⟩
   refine pure_ (i := 0) (N := some 98) (v := ?_) (a' := ?_) (bm 12 1) rfl rfl (by kernel_rfl) (fun _ _ _ h => panic_put (by decide) (by decide) (by decide) h) (Or.inl ⟨by rfl, ?_⟩) ?_ ?_
   rotate_left
   ·
    intro u
    go_simp
    with_reducible rfl
   rotate_left
   ·
    simp only [pz]
    rfl
   refine pure_ (i := 1) (N := some 99) (v := ?_) (a' := ?_) (bm 12 3) rfl rfl (by kernel_rfl) (fun _ _ _ h => panic_put (by decide) (by decide) (by decide) h) (Or.inl ⟨by rfl, ?_⟩) ?_ ?_
   rotate_left
   ·
    intro u
    go_simp
    with_reducible rfl
   rotate_left
   ·
    simp only [pz]
    rfl
   refine pure_ (i := 2) (N := some 100) (v := ?_) (a' := ?_) (bm 12 7) rfl rfl (by kernel_rfl) (fun _ _ _ h => panic_put (by decide) (by decide) (by decide) h) (Or.inl ⟨by rfl, ?_⟩) ?_ ?_
   rotate_left
   ·
    intro u
    go_simp
    with_reducible rfl
   rotate_left
   ·
    simp only [pz]
    rfl
   refine pure_ (i := 3) (N := some 101) (v := ?_) (a' := ?_) (bm 12 15) rfl rfl (by kernel_rfl) (fun _ _ _ h => panic_put (by decide) (by decide) (by decide) h) (Or.inl ⟨by rfl, ?_⟩) ?_ ?_
   rotate_left
   ·
    intro u
    go_simp
    with_reducible rfl
   rotate_left
   ·
    simp only [pz]
    rfl
   refine take_ (i := 4) (N := some 102) (v := ?_) (a' := ?_) (bm 12 31) rfl rfl (by kernel_rfl) (fun _ _ _ h => panic_put (by decide) (by decide) (by decide) h) (Or.inl ⟨by rfl, ?_⟩) hHeld ?_ ?_
   rotate_left
   ·
    rintro u ⟨s0, s1⟩
    go_simp
    with_reducible rfl
   rotate_left
   ·
    simp only [pz]
    rfl
   refine pure_ (i := 5) (N := some 103) (v := ?_) (a' := ?_) (bm 12 63) rfl rfl (by kernel_rfl) (fun _ _ _ h => panic_put (by decide) (by decide) (by decide) h) (Or.inl ⟨by rfl, ?_⟩) ?_ ?_
   rotate_left
   ·
    intro u
    go_simp
    with_reducible rfl
   rotate_left
   ·
    simp only [pz]
    rfl
   refine pure_ (i := 6) (N := some 104) (v := ?_) (a' := ?_) (bm 12 127) rfl rfl (by kernel_rfl) (fun _ _ _ h => panic_put (by decide) (by decide) (by decide) h) (Or.inl ⟨by rfl, ?_⟩) ?_ ?_
   rotate_left
   ·
    intro u
    go_simp
    with_reducible rfl
   rotate_left
   ·
    simp only [pz]
    rfl
   refine pure_ (i := 7) (N := some 105) (v := ?_) (a' := ?_) (bm 12 255) rfl rfl (by kernel_rfl) (fun _ _ _ h => panic_put (by decide) (by decide) (by decide) h) (Or.inl ⟨by rfl, ?_⟩) ?_ ?_
   rotate_left
   ·
    intro u
    go_simp
    with_reducible rfl
   rotate_left
   ·
    simp only [pz]
    rfl
   refine take_ (i := 8) (N := some 106) (v := ?_) (a' := ?_) (bm 12 511) rfl rfl (by kernel_rfl) (fun _ _ _ h => panic_put (by decide) (by decide) (by decide) h) (Or.inl ⟨by rfl, ?_⟩) hHeld ?_ ?_
   rotate_left
   ·
    rintro u ⟨s0, s1⟩
    go_simp
    with_reducible rfl
   rotate_left
   ·
    simp only [pz]
    rfl
   refine one_ (i := 9) (N := some 107) (bm 12 1023) rfl rfl (by kernel_rfl) (by decide) (fun K hK => ?_)
   refine goes_ Try.func12 (by kernel_rfl) rfl #[.slice Av cs.length cv, .slice Af fs.length cf] (by rfl) rfl rfl (by (try simp only [ml]); first | done | rfl) ?_
   refine (ehframe_Check.calls 0 Av cv cs Af cf fs 0 _ (Kd.S_reads' HST2.out.drew.hc).2.2 (Kd.S_reads' HST2.out.drew.hc).2.1 (Kd.S_reads' HST2.out.drew.hf).2.2 (Kd.S_reads' HST2.out.drew.hf).2.1 HFC.out).mono ?_
   rintro e wx ⟨rfl, hb⟩
   refine ⟨_, rfl, ?_⟩
   have HST3 := am (HST2.out.drew.below hb)
   have g4 : wx.cell? ⟨pl + 1 + 1 + 1 + 1, 2, none⟩ = some (.slice Av cs.length cv) := (blk_cell HST3.out.blk 2).trans rfl
   have g5 : wx.cell? ⟨pl + 1 + 1 + 1 + 1, 3, none⟩ = some (.slice Af fs.length cf) := (blk_cell HST3.out.blk 3).trans rfl
   clear hb hHeld g2 g3
   refine hK.out _ _ ⟨g4, g5⟩ (fun hHeld => ?_)
   clear hK K
   refine norm_ (a' := ?_) ?_ ?_
   rotate_left
   ·
    show Act.put _ (some 107) _ = _
    simp only [pz]
    rfl
   refine pure_ (i := 10) (N := some 108) (v := ?_) (a' := ?_) (bm 12 2047) rfl rfl (by kernel_rfl) (fun _ _ _ h => panic_put (by decide) (by decide) (by decide) h) (Or.inl ⟨by rfl, ?_⟩) ?_ ?_
   rotate_left
   ·
    intro u
    go_simp
    with_reducible rfl
   rotate_left
   ·
    simp only [pz]
    rfl
   refine last_ (i := 11) (N := some 109) (bm 12 4095) rfl rfl (by kernel_rfl) (by decide) (fun K hK => ?_)
   refine goes_ Try.func55 (by kernel_rfl) rfl #[.pointer (some ⟨pl + 1 + 1 + 1 + 1, 0, none⟩), .bool false] (by rfl) rfl rfl (by (try simp only [ml]); first | done | rfl) ?_
   refine (fail_no _ _).mono ?_
   rintro e wy ⟨rfl, hwy⟩
   subst hwy
   refine ⟨_, rfl, ?_⟩
   clear hHeld
   refine hK.out _ _ ?_
   clear hK K
   refine done_ (by kernel_rfl) ?_
   go_wp2
   have hp0 : wy.drew.heap[pl]? = some (.cells #[.slice none 0 0] 24 (0, 0)) := blk_drew (below_at HST3.out.hb HP0.out (by have := HS0.out; omega))
   have hp1 : wy.drew.heap[pl + 1]? = some (.cells #[.slice none 0 0] 25 (0, 0)) := blk_drew (below_at HST3.out.hb HP1.out (by have := HS0.out; omega))
   have hp2 : wy.drew.heap[pl + 1 + 1]? = some (.cells #[.int .i64 0] 30 (0, 0)) := blk_drew (below_at HST3.out.hb HP2.out (by have := HS0.out; omega))
   obtain ⟨x0, x1, x2, x3, x4, x5, x6, x7, x8, x9, x10, x11, x12⟩ := final_ hp0 hp1 hp2 (.slice Av cs.length cv) (.slice Af fs.length cf) HST3.out.drew.blk (by omega)
   have HX10 := am x10
   have HX11 := am x11
   have HX12 := am x12
   have HSTD := am HST3.out.drew
   clear hp0 hp1 hp2 x10 x11 x12
   refine start_ (n := 11) (S := fun u => u.cell? ⟨pl + 1 + 1 + 1 + 1, 2, none⟩ = some (.slice Av cs.length cv) ∧ u.cell? ⟨pl + 1 + 1 + 1 + 1, 3, none⟩ = some (.slice Af fs.length cf)) (ds := [10]) (bm 11 0) (by kernel_rfl) rfl rfl ?_ (fun hHeld => ?_)
   case refine_1 => exact ⟨by go_simp, by go_simp⟩
   refine pure_ (i := 0) (N := some 110) (v := ?_) (a' := ?_) (bm 11 1) rfl rfl (by kernel_rfl) (fun _ _ _ h => panic_put (by decide) (by decide) (by decide) h) (Or.inl ⟨by rfl, ?_⟩) ?_ ?_
   rotate_left
   ·
    intro u
    go_simp
    with_reducible rfl
   rotate_left
   ·
    simp only [pz]
    rfl
   refine pure_ (i := 1) (N := some 111) (v := ?_) (a' := ?_) (bm 11 3) rfl rfl (by kernel_rfl) (fun _ _ _ h => panic_put (by decide) (by decide) (by decide) h) (Or.inl ⟨by rfl, ?_⟩) ?_ ?_
   rotate_left
   ·
    intro u
    go_simp
    with_reducible rfl
   rotate_left
   ·
    simp only [pz]
    rfl
   refine pure_ (i := 2) (N := some 112) (v := ?_) (a' := ?_) (bm 11 7) rfl rfl (by kernel_rfl) (fun _ _ _ h => panic_put (by decide) (by decide) (by decide) h) (Or.inl ⟨by rfl, ?_⟩) ?_ ?_
   rotate_left
   ·
    intro u
    go_simp
    with_reducible rfl
   rotate_left
   ·
    simp only [pz]
    rfl
   refine take_ (i := 3) (N := some 113) (v := ?_) (a' := ?_) (bm 11 15) rfl rfl (by kernel_rfl) (fun _ _ _ h => panic_put (by decide) (by decide) (by decide) h) (Or.inl ⟨by rfl, ?_⟩) hHeld ?_ ?_
   rotate_left
   ·
    rintro u ⟨s0, s1⟩
    go_simp
    with_reducible rfl
   rotate_left
   ·
    simp only [pz]
    rfl
   refine pure_ (i := 4) (N := some 114) (v := ?_) (a' := ?_) (bm 11 31) rfl rfl (by kernel_rfl) (fun _ _ _ h => panic_put (by decide) (by decide) (by decide) h) (Or.inl ⟨by rfl, ?_⟩) ?_ ?_
   rotate_left
   ·
    intro u
    go_simp
    with_reducible rfl
   rotate_left
   ·
    simp only [pz]
    rfl
   refine pure_ (i := 5) (N := some 115) (v := ?_) (a' := ?_) (bm 11 63) rfl rfl (by kernel_rfl) (fun _ _ _ h => panic_put (by decide) (by decide) (by decide) h) (Or.inl ⟨by rfl, ?_⟩) ?_ ?_
   rotate_left
   ·
    intro u
    go_simp
    with_reducible rfl
   rotate_left
   ·
    simp only [pz]
    rfl
   refine pure_ (i := 6) (N := some 116) (v := ?_) (a' := ?_) (bm 11 127) rfl rfl (by kernel_rfl) (fun _ _ _ h => panic_put (by decide) (by decide) (by decide) h) (Or.inl ⟨by rfl, ?_⟩) ?_ ?_
   rotate_left
   ·
    intro u
    go_simp
    with_reducible rfl
   rotate_left
   ·
    simp only [pz]
    rfl
   refine take_ (i := 7) (N := some 117) (v := ?_) (a' := ?_) (bm 11 255) rfl rfl (by kernel_rfl) (fun _ _ _ h => panic_put (by decide) (by decide) (by decide) h) (Or.inl ⟨by rfl, ?_⟩) hHeld ?_ ?_
   rotate_left
   ·
    rintro u ⟨s0, s1⟩
    go_simp
    with_reducible rfl
   rotate_left
   ·
    simp only [pz]
    rfl
   refine one_ (i := 8) (N := none) (bm 11 511) rfl rfl (by kernel_rfl) (by decide) (fun K hK => ?_)
   generalize wy.drew = wz at HSTD x0 x1 x2 x3 x4 x5 x6 x7 x8 x9 HX10 HX11 HX12 hHeld hK ⊢
   rw [if_pos (by rfl)]
   go_simp
   refine hK.out _ _ x6 (fun hHeld => ?_)
   clear hK K
   refine one_ (i := 9) (N := none) (bm 11 1023) rfl rfl (by kernel_rfl) (by decide) (fun K hK => ?_)
   rw [if_pos (by rfl)]
   go_simp
   refine hK.out _ _ x7 (fun hHeld => ?_)
   clear hK K
   refine last_ (i := 10) (N := none) (bm 11 2047) rfl rfl (by kernel_rfl) (by decide) (fun K hK => ?_)
   rw [if_pos (by rfl)]
   go_simp
   refine hK.out _ _ ?_
   clear hK K
   refine done_ (by kernel_rfl) ?_
   go_wp2
   refine leaves_cons (f := 54) (args := #[.pointer (some ⟨pl, 0, none⟩), .pointer (some ⟨pl + 1, 0, none⟩), .pointer (some ⟨pl + 1 + 1, 0, none⟩)]) (by simp) (by simp [go_sem]) ?_
   refine (read_idle _ _ _ _).mono ?_
   rintro e u' w6 ⟨rfl, rfl, rfl⟩
   refine ⟨.tuple #[.slice Av cs.length cv, .slice Af fs.length cf, .int .i64 0], results3c (p := 4) (q := 5) (r := 6) rfl _ _ _ ⟨pl, 0, none⟩ ⟨pl + 1, 0, none⟩ ⟨pl + 1 + 1, 0, none⟩ (.slice Av cs.length cv) (.slice Af fs.length cf) (.int .i64 0) rfl rfl rfl Try.underlying24 Try.underlying25 Try.underlying30 ((blk_cell HX10.out 0).trans rfl) ((blk_cell HX11.out 0).trans rfl) ((blk_cell HX12.out 0).trans rfl), .slice Av cs.length cv, .slice Af fs.length cf, rfl, ?_⟩
   exact ended_ HSTD.out HS0.out HPL.out HB0.out
end Go.Proofs.Ytfgfnflhdabmcaa.EhRd
end
section
namespace Go.Proofs.Ytfgfnflhdabmcaa.G
open Go.RowKit Go.Proofs.YtfgfnflhdabmcaaW.PrintWords Go.Proofs.YtfgfnflhdabmcaaW.PrintLast Go.Proofs.YtfgfnflhdabmcaaW.PrintMore
attribute [local go_sem] max2_int min2_int max_two min_two max_three min_three max_four min_four
def ehframe_Read.f (l0 : List Int) (a1 : Int) : Option (List S69 × List S46 × Int) := EhRd.readF l0 a1
theorem ehframe_Read.calls (A0 : Option Addr) (c0 : Nat) (l0 : List Int) (a1 : Int) (r1 : List S69) (r2 : List S46) (r3 : Int) (w : World) (hr0 : Kd.C (Kd.int .u8) w A0 l0.length l0) (hc0 : l0.length ≤ c0) (h : ehframe_Read.f l0 a1 = some (r1, r2, r3)) :
  Calls Try.prog 21 #[.slice A0 l0.length c0, .int .i64 a1] w fun e w' => ∃ v0_ v1_ : Value, e = .returned (.tuple #[v0_, v1_, .int .i64 r3]) ∧ Kd.S k69 69 w' w.heap.size (fun _ => True) v0_ r1 ∧ Kd.S k46 46 w' w.heap.size (fun _ => True) v1_ r2 ∧ Below w.heap.size w w' := EhRd.read_calls A0 c0 l0 a1 r1 r2 r3 w hr0 hc0 h
mutual
def gangwaylaw14_EhframeWhole.l0 : Nat → List (S43) → List (S61) → Int → List Int → List Int → Int → Int → Option (Bool)
  | 0, _, _, _, _, _, _, _ => none
  | k + 1, x0, x1, x2, x9, x10, x12, x13 => if x13 < (x9.length : Int) then (if (wrap64 (x13 + 8)) > (x9.length : Int) then (gangwaylaw14_EhframeWhole.j1 k x0 x1 x2 x9 x10 x12 x13 true) else (gangwaylaw14_EhframeWhole.j1 k x0 x1 x2 x9 x10 x12 x13 ((Int.tmod x13 8) != 0))) else (if x12 = (wrap64 ((x0.length : Int) + (x1.length : Int))) then (gangwaylaw14_EhframeWhole.j2 k x2 x9 ((x10.length : Int) != (x1.length : Int))) else (gangwaylaw14_EhframeWhole.j2 k x2 x9 true))
def gangwaylaw14_EhframeWhole.j1 : Nat → List (S43) → List (S61) → Int → List Int → List Int → Int → Int → Bool → Option (Bool)
  | 0, _, _, _, _, _, _, _, _ => none
  | k + 1, x0, x1, x2, x9, x10, x12, x13, x50 => if x50 = true then (none) else (if 0 ≤ x13 then (if x13 < (x9.length : Int) then (if 0 ≤ (wrap64 (x13 + 1)) then (if (wrap64 (x13 + 1)) < (x9.length : Int) then (if 0 ≤ (wrap64 (x13 + 2)) then (if (wrap64 (x13 + 2)) < (x9.length : Int) then (if 0 ≤ (wrap64 (x13 + 3)) then (if (wrap64 (x13 + 3)) < (x9.length : Int) then (if (wrap64 ((wrap64 ((wrap64 ((wrap64 ((wrap64 (x13 + 4)) + (wrap64 (rd x9 x13)))) + (wrap64 ((wrap64 (rd x9 (wrap64 (x13 + 1)))) * 256)))) + (wrap64 ((wrap64 (rd x9 (wrap64 (x13 + 2)))) * 65536)))) + (wrap64 ((wrap64 (rd x9 (wrap64 (x13 + 3)))) * 16777216)))) > (x9.length : Int) then (none) else (gangwaylaw14_EhframeWhole.l0 k x0 x1 x2 x9 x10 (wrap64 (x12 + 1)) (wrap64 ((wrap64 ((wrap64 ((wrap64 ((wrap64 (x13 + 4)) + (wrap64 (rd x9 x13)))) + (wrap64 ((wrap64 (rd x9 (wrap64 (x13 + 1)))) * 256)))) + (wrap64 ((wrap64 (rd x9 (wrap64 (x13 + 2)))) * 65536)))) + (wrap64 ((wrap64 (rd x9 (wrap64 (x13 + 3)))) * 16777216)))))) else (none)) else (none)) else (none)) else (none)) else (none)) else (none)) else (none)) else (none))
def gangwaylaw14_EhframeWhole.j2 : Nat → Int → List Int → Bool → Option (Bool)
  | 0, _, _, _ => none
  | k + 1, x2, x9, x100 => if x100 = true then (none) else (if (x9.length : Int) = 0 then ((gangwaylaw14_live.f k).bind fun t120 => (some t120)) else (if 0 ≤ (wrap64 ((x9.length : Int) - 1)) then (if (wrap64 ((x9.length : Int) - 1)) ≤ (x9.length : Int) then ((ehframe_Read.f (x9.take ((wrap64 ((x9.length : Int) - 1)) : Int).toNat) x2).bind fun bt125 => ((gangwaylaw14_num.f bt125.2.2).bind fun t132 => (if t132 = 140 then ((gangwaylaw14_live.f k).bind fun t133 => (some t133)) else (none)))) else (none)) else (none)))
end
def gangwaylaw14_EhframeWhole.f (k : Nat) (l0 : List (S43)) (l1 : List (S61)) (a2 : Int) : Option (Bool) := (gangwaylaw14_tables.f k l0 l1).bind fun bt101 => ((ehframe_Write.f k bt101.1 bt101.2 a2 false).bind fun bt107 => ((gangwaylaw14_num.f bt107.2.2).bind fun t114 => (if t114 = 0 then (gangwaylaw14_EhframeWhole.l0 k l0 l1 a2 bt107.1 bt107.2.1 0 0) else ((gangwaylaw14_live.f k).bind fun t115 => (some t115)))))
set_option maxHeartbeats 8000000 in
theorem gangwaylaw14_EhframeWhole.calls (k : Nat) (A0 : Option Addr) (c0 : Nat) (l0 : List (S43)) (A1 : Option Addr) (c1 : Nat) (l1 : List (S61)) (a2 : Int) (r : Bool) (w : World) (hr0 : Kd.C k43 w A0 l0.length l0) (hc0 : l0.length ≤ c0) (hr1 : Kd.C k61 w A1 l1.length l1) (hc1 : l1.length ≤ c1) (h : gangwaylaw14_EhframeWhole.f k l0 l1 a2 = some r) :
    Calls Try.prog 7 #[.slice A0 l0.length c0, .slice A1 l1.length c1, .int .i64 a2] w fun e w' => e = .returned (.bool r) ∧ Below w.heap.size w w' := by
 have HR0 := am hr0
 have HC0 := am hc0
 clear hr0 hc0
 have HR1 := am hr1
 have HC1 := am hc1
 clear hr1 hc1
 have HB := am (Below.refl w.heap.size w)
 have H : ((gangwaylaw14_tables.f k l0 l1).bind fun bt101 => ((ehframe_Write.f k bt101.1 bt101.2 a2 false).bind fun bt107 => ((gangwaylaw14_num.f bt107.2.2).bind fun t114 => (if t114 = 0 then (gangwaylaw14_EhframeWhole.l0 k l0 l1 a2 bt107.1 bt107.2.1 0 0) else ((gangwaylaw14_live.f k).bind fun t115 => (some t115)))))) = some r := h
 clear h
 replace H := Option.bind_eq_some_iff.mp H
 obtain ⟨⟨t101, t102⟩, A40, H⟩ := H
 replace H : ((ehframe_Write.f k t101 t102 a2 false).bind fun bt107 => ((gangwaylaw14_num.f bt107.2.2).bind fun t114 => (if t114 = 0 then (gangwaylaw14_EhframeWhole.l0 k l0 l1 a2 bt107.1 bt107.2.1 0 0) else ((gangwaylaw14_live.f k).bind fun t115 => (some t115))))) = some r := H
 have A4 := am A40
 clear A40
 replace H := Option.bind_eq_some_iff.mp H
 obtain ⟨⟨t107, t108, t109⟩, A50, H⟩ := H
 replace H : ((gangwaylaw14_num.f t109).bind fun t114 => (if t114 = 0 then (gangwaylaw14_EhframeWhole.l0 k l0 l1 a2 t107 t108 0 0) else ((gangwaylaw14_live.f k).bind fun t115 => (some t115)))) = some r := H
 have A5 := am A50
 clear A50
 replace H := Option.bind_eq_some_iff.mp H
 obtain ⟨t114, A60, H⟩ := H
 replace H : (if t114 = 0 then (gangwaylaw14_EhframeWhole.l0 k l0 l1 a2 t107 t108 0 0) else ((gangwaylaw14_live.f k).bind fun t115 => (some t115))) = some r := H
 have A6 := am A60
 clear A60
 by_cases c7 : t114 = 0
 rotate_left
 ·
  rw [if_neg c7] at H
  have c7b0 : (t114 == 0) = false := beq_eq_false_iff_ne.mpr c7
  have c7b1 : (t114 != 0) = true := bne_iff_ne.mpr c7
  replace H := Option.bind_eq_some_iff.mp H
  obtain ⟨t115, A470, H⟩ := H
  replace H : (some t115) = some r := H
  have A47 := am A470
  clear A470
  obtain rfl := Option.some.inj H
  go_enter Try.func7, Try.ntmps7
  go_wp2_with (first | (go_at_call 8; (with_reducible refine (gangwaylaw14_tables.calls k _ _ l0 _ _ l1 t101 t102 _ ?side1 ?side2 ?side3 ?side4 A4.out).mono ?_); (case side1 => exact Kd.C_o HR0.out); (case side2 => exact HC0.out); (case side3 => exact Kd.C_o HR1.out); (case side4 => exact HC1.out); rintro e w48 ⟨v103, v105, rfl, ho0, ho1, hb⟩; refine mv3 (am (Kd.S_lower ho0 (below_size (by exact bl_o HB.out)))) (am (Kd.S_lower ho1 (below_size (by exact bl_o HB.out)))) (am (below_step (by exact bl_o HB.out) hb)) ?_; clear HB; intro HO104 HO106 HB; (try clear ho1); obtain ⟨Ao49, co49, eo49⟩ := Kd.S_slice HO104.out; subst eo49; obtain ⟨Ao50, co50, eo50⟩ := Kd.S_slice HO106.out; subst eo50) | (go_at_call 9; (with_reducible refine (ehframe_Write.calls k _ _ t101 _ _ t102 a2 false t107 t108 t109 _ ?side1 ?side2 ?side3 ?side4 A5.out).mono ?_); (case side1 => exact Kd.C_o ((Kd.S_reads' HO104.out).2.2)); (case side2 => exact (Kd.S_reads' HO104.out).2.1); (case side3 => exact Kd.C_o ((Kd.S_reads' HO106.out).2.2)); (case side4 => exact (Kd.S_reads' HO106.out).2.1); rintro e w51 ⟨v110, v112, rfl, ho0, ho1, hb⟩; refine mv5 (am (Kd.S_below (by (with_reducible repeat (first | apply Kd.S_alloc | apply Kd.S_drewN | apply Kd.S_drew)); exact HO104.out) hb)) (am (Kd.S_below (by (with_reducible repeat (first | apply Kd.S_alloc | apply Kd.S_drewN | apply Kd.S_drew)); exact HO106.out) hb)) (am (Kd.R_lower ho0 (below_size (by exact bl_o HB.out)))) (am (Kd.R_lower ho1 (below_size (by exact bl_o HB.out)))) (am (below_step (by exact bl_o HB.out) hb)) ?_; clear HO104 HO106 HB; intro HO104 HO106 HO111 HO113 HB; (try clear ho1)) | (go_at_call 11; (with_reducible refine (gangwaylaw14_num.calls t109 t114 _ A6.out).mono ?_); rintro e w' ⟨rfl, ⟨nd, rfl⟩⟩; (try first | exact ⟨rfl, _, World.drewN_drewN _ _ _⟩ | exact ⟨rfl, _, Eq.trans (World.drewN_drewN _ _ _) (congrArg (World.drewN _) (Nat.add_assoc _ _ _))⟩)) | (go_at_call 15; (with_reducible refine (gangwaylaw14_live.calls k  t115 _ A47.out).mono ?_); rintro e w52 ⟨rfl, hb⟩; refine mv5 (am (Kd.S_below (by (with_reducible repeat (first | apply Kd.S_alloc | apply Kd.S_drewN | apply Kd.S_drew)); exact HO104.out) hb)) (am (Kd.S_below (by (with_reducible repeat (first | apply Kd.S_alloc | apply Kd.S_drewN | apply Kd.S_drew)); exact HO106.out) hb)) (am (Kd.R_below (Kd.R_o HO111.out) hb)) (am (Kd.R_below (Kd.R_o HO113.out) hb)) (am (below_step (by exact bl_o HB.out) hb)) ?_; clear HO104 HO106 HO111 HO113 HB; intro HO104 HO106 HO111 HO113 HB))
  repeat (go_quiet (first | (go_at_call 8; (with_reducible refine (gangwaylaw14_tables.calls k _ _ l0 _ _ l1 t101 t102 _ ?side1 ?side2 ?side3 ?side4 A4.out).mono ?_); (case side1 => exact Kd.C_o HR0.out); (case side2 => exact HC0.out); (case side3 => exact Kd.C_o HR1.out); (case side4 => exact HC1.out); rintro e w48 ⟨v103, v105, rfl, ho0, ho1, hb⟩; refine mv3 (am (Kd.S_lower ho0 (below_size (by exact bl_o HB.out)))) (am (Kd.S_lower ho1 (below_size (by exact bl_o HB.out)))) (am (below_step (by exact bl_o HB.out) hb)) ?_; clear HB; intro HO104 HO106 HB; (try clear ho1); obtain ⟨Ao49, co49, eo49⟩ := Kd.S_slice HO104.out; subst eo49; obtain ⟨Ao50, co50, eo50⟩ := Kd.S_slice HO106.out; subst eo50) | (go_at_call 9; (with_reducible refine (ehframe_Write.calls k _ _ t101 _ _ t102 a2 false t107 t108 t109 _ ?side1 ?side2 ?side3 ?side4 A5.out).mono ?_); (case side1 => exact Kd.C_o ((Kd.S_reads' HO104.out).2.2)); (case side2 => exact (Kd.S_reads' HO104.out).2.1); (case side3 => exact Kd.C_o ((Kd.S_reads' HO106.out).2.2)); (case side4 => exact (Kd.S_reads' HO106.out).2.1); rintro e w51 ⟨v110, v112, rfl, ho0, ho1, hb⟩; refine mv5 (am (Kd.S_below (by (with_reducible repeat (first | apply Kd.S_alloc | apply Kd.S_drewN | apply Kd.S_drew)); exact HO104.out) hb)) (am (Kd.S_below (by (with_reducible repeat (first | apply Kd.S_alloc | apply Kd.S_drewN | apply Kd.S_drew)); exact HO106.out) hb)) (am (Kd.R_lower ho0 (below_size (by exact bl_o HB.out)))) (am (Kd.R_lower ho1 (below_size (by exact bl_o HB.out)))) (am (below_step (by exact bl_o HB.out) hb)) ?_; clear HO104 HO106 HB; intro HO104 HO106 HO111 HO113 HB; (try clear ho1)) | (go_at_call 11; (with_reducible refine (gangwaylaw14_num.calls t109 t114 _ A6.out).mono ?_); rintro e w' ⟨rfl, ⟨nd, rfl⟩⟩; (try first | exact ⟨rfl, _, World.drewN_drewN _ _ _⟩ | exact ⟨rfl, _, Eq.trans (World.drewN_drewN _ _ _) (congrArg (World.drewN _) (Nat.add_assoc _ _ _))⟩)) | (go_at_call 15; (with_reducible refine (gangwaylaw14_live.calls k  t115 _ A47.out).mono ?_); rintro e w52 ⟨rfl, hb⟩; refine mv5 (am (Kd.S_below (by (with_reducible repeat (first | apply Kd.S_alloc | apply Kd.S_drewN | apply Kd.S_drew)); exact HO104.out) hb)) (am (Kd.S_below (by (with_reducible repeat (first | apply Kd.S_alloc | apply Kd.S_drewN | apply Kd.S_drew)); exact HO106.out) hb)) (am (Kd.R_below (Kd.R_o HO111.out) hb)) (am (Kd.R_below (Kd.R_o HO113.out) hb)) (am (below_step (by exact bl_o HB.out) hb)) ?_; clear HO104 HO106 HO111 HO113 HB; intro HO104 HO106 HO111 HO113 HB)); try go_wp2_with (first | (go_at_call 8; (with_reducible refine (gangwaylaw14_tables.calls k _ _ l0 _ _ l1 t101 t102 _ ?side1 ?side2 ?side3 ?side4 A4.out).mono ?_); (case side1 => exact Kd.C_o HR0.out); (case side2 => exact HC0.out); (case side3 => exact Kd.C_o HR1.out); (case side4 => exact HC1.out); rintro e w48 ⟨v103, v105, rfl, ho0, ho1, hb⟩; refine mv3 (am (Kd.S_lower ho0 (below_size (by exact bl_o HB.out)))) (am (Kd.S_lower ho1 (below_size (by exact bl_o HB.out)))) (am (below_step (by exact bl_o HB.out) hb)) ?_; clear HB; intro HO104 HO106 HB; (try clear ho1); obtain ⟨Ao49, co49, eo49⟩ := Kd.S_slice HO104.out; subst eo49; obtain ⟨Ao50, co50, eo50⟩ := Kd.S_slice HO106.out; subst eo50) | (go_at_call 9; (with_reducible refine (ehframe_Write.calls k _ _ t101 _ _ t102 a2 false t107 t108 t109 _ ?side1 ?side2 ?side3 ?side4 A5.out).mono ?_); (case side1 => exact Kd.C_o ((Kd.S_reads' HO104.out).2.2)); (case side2 => exact (Kd.S_reads' HO104.out).2.1); (case side3 => exact Kd.C_o ((Kd.S_reads' HO106.out).2.2)); (case side4 => exact (Kd.S_reads' HO106.out).2.1); rintro e w51 ⟨v110, v112, rfl, ho0, ho1, hb⟩; refine mv5 (am (Kd.S_below (by (with_reducible repeat (first | apply Kd.S_alloc | apply Kd.S_drewN | apply Kd.S_drew)); exact HO104.out) hb)) (am (Kd.S_below (by (with_reducible repeat (first | apply Kd.S_alloc | apply Kd.S_drewN | apply Kd.S_drew)); exact HO106.out) hb)) (am (Kd.R_lower ho0 (below_size (by exact bl_o HB.out)))) (am (Kd.R_lower ho1 (below_size (by exact bl_o HB.out)))) (am (below_step (by exact bl_o HB.out) hb)) ?_; clear HO104 HO106 HB; intro HO104 HO106 HO111 HO113 HB; (try clear ho1)) | (go_at_call 11; (with_reducible refine (gangwaylaw14_num.calls t109 t114 _ A6.out).mono ?_); rintro e w' ⟨rfl, ⟨nd, rfl⟩⟩; (try first | exact ⟨rfl, _, World.drewN_drewN _ _ _⟩ | exact ⟨rfl, _, Eq.trans (World.drewN_drewN _ _ _) (congrArg (World.drewN _) (Nat.add_assoc _ _ _))⟩)) | (go_at_call 15; (with_reducible refine (gangwaylaw14_live.calls k  t115 _ A47.out).mono ?_); rintro e w52 ⟨rfl, hb⟩; refine mv5 (am (Kd.S_below (by (with_reducible repeat (first | apply Kd.S_alloc | apply Kd.S_drewN | apply Kd.S_drew)); exact HO104.out) hb)) (am (Kd.S_below (by (with_reducible repeat (first | apply Kd.S_alloc | apply Kd.S_drewN | apply Kd.S_drew)); exact HO106.out) hb)) (am (Kd.R_below (Kd.R_o HO111.out) hb)) (am (Kd.R_below (Kd.R_o HO113.out) hb)) (am (below_step (by exact bl_o HB.out) hb)) ?_; clear HO104 HO106 HO111 HO113 HB; intro HO104 HO106 HO111 HO113 HB)))
  go_ret
  exact ⟨rfl, by exact bl_g HB.out⟩
 rw [if_pos c7] at H
 have c7b0 : (t114 == 0) = true := beq_iff_eq.mpr c7
 have c7b1 : (t114 != 0) = false := bne_eq_false_iff_eq.mpr c7
 clear c7
 have H' := am H
 clear H
 go_enter Try.func7, Try.ntmps7
 go_wp2_with (first | (go_at_call 8; (with_reducible refine (gangwaylaw14_tables.calls k _ _ l0 _ _ l1 t101 t102 _ ?side1 ?side2 ?side3 ?side4 A4.out).mono ?_); (case side1 => exact Kd.C_o HR0.out); (case side2 => exact HC0.out); (case side3 => exact Kd.C_o HR1.out); (case side4 => exact HC1.out); rintro e w8 ⟨v103, v105, rfl, ho0, ho1, hb⟩; refine mv3 (am (Kd.S_lower ho0 (below_size (by exact bl_o HB.out)))) (am (Kd.S_lower ho1 (below_size (by exact bl_o HB.out)))) (am (below_step (by exact bl_o HB.out) hb)) ?_; clear HB; intro HO104 HO106 HB; (try clear ho1); obtain ⟨Ao9, co9, eo9⟩ := Kd.S_slice HO104.out; subst eo9; obtain ⟨Ao10, co10, eo10⟩ := Kd.S_slice HO106.out; subst eo10) | (go_at_call 9; (with_reducible refine (ehframe_Write.calls k _ _ t101 _ _ t102 a2 false t107 t108 t109 _ ?side1 ?side2 ?side3 ?side4 A5.out).mono ?_); (case side1 => exact Kd.C_o ((Kd.S_reads' HO104.out).2.2)); (case side2 => exact (Kd.S_reads' HO104.out).2.1); (case side3 => exact Kd.C_o ((Kd.S_reads' HO106.out).2.2)); (case side4 => exact (Kd.S_reads' HO106.out).2.1); rintro e w11 ⟨v110, v112, rfl, ho0, ho1, hb⟩; refine mv5 (am (Kd.S_below (by (with_reducible repeat (first | apply Kd.S_alloc | apply Kd.S_drewN | apply Kd.S_drew)); exact HO104.out) hb)) (am (Kd.S_below (by (with_reducible repeat (first | apply Kd.S_alloc | apply Kd.S_drewN | apply Kd.S_drew)); exact HO106.out) hb)) (am (Kd.R_lower ho0 (below_size (by exact bl_o HB.out)))) (am (Kd.R_lower ho1 (below_size (by exact bl_o HB.out)))) (am (below_step (by exact bl_o HB.out) hb)) ?_; clear HO104 HO106 HB; intro HO104 HO106 HO111 HO113 HB; (try clear ho1)) | (go_at_call 11; (with_reducible refine (gangwaylaw14_num.calls t109 t114 _ A6.out).mono ?_); rintro e w' ⟨rfl, ⟨nd, rfl⟩⟩; (try first | exact ⟨rfl, _, World.drewN_drewN _ _ _⟩ | exact ⟨rfl, _, Eq.trans (World.drewN_drewN _ _ _) (congrArg (World.drewN _) (Nat.add_assoc _ _ _))⟩)))
 repeat (go_quiet (first | (go_at_call 8; (with_reducible refine (gangwaylaw14_tables.calls k _ _ l0 _ _ l1 t101 t102 _ ?side1 ?side2 ?side3 ?side4 A4.out).mono ?_); (case side1 => exact Kd.C_o HR0.out); (case side2 => exact HC0.out); (case side3 => exact Kd.C_o HR1.out); (case side4 => exact HC1.out); rintro e w8 ⟨v103, v105, rfl, ho0, ho1, hb⟩; refine mv3 (am (Kd.S_lower ho0 (below_size (by exact bl_o HB.out)))) (am (Kd.S_lower ho1 (below_size (by exact bl_o HB.out)))) (am (below_step (by exact bl_o HB.out) hb)) ?_; clear HB; intro HO104 HO106 HB; (try clear ho1); obtain ⟨Ao9, co9, eo9⟩ := Kd.S_slice HO104.out; subst eo9; obtain ⟨Ao10, co10, eo10⟩ := Kd.S_slice HO106.out; subst eo10) | (go_at_call 9; (with_reducible refine (ehframe_Write.calls k _ _ t101 _ _ t102 a2 false t107 t108 t109 _ ?side1 ?side2 ?side3 ?side4 A5.out).mono ?_); (case side1 => exact Kd.C_o ((Kd.S_reads' HO104.out).2.2)); (case side2 => exact (Kd.S_reads' HO104.out).2.1); (case side3 => exact Kd.C_o ((Kd.S_reads' HO106.out).2.2)); (case side4 => exact (Kd.S_reads' HO106.out).2.1); rintro e w11 ⟨v110, v112, rfl, ho0, ho1, hb⟩; refine mv5 (am (Kd.S_below (by (with_reducible repeat (first | apply Kd.S_alloc | apply Kd.S_drewN | apply Kd.S_drew)); exact HO104.out) hb)) (am (Kd.S_below (by (with_reducible repeat (first | apply Kd.S_alloc | apply Kd.S_drewN | apply Kd.S_drew)); exact HO106.out) hb)) (am (Kd.R_lower ho0 (below_size (by exact bl_o HB.out)))) (am (Kd.R_lower ho1 (below_size (by exact bl_o HB.out)))) (am (below_step (by exact bl_o HB.out) hb)) ?_; clear HO104 HO106 HB; intro HO104 HO106 HO111 HO113 HB; (try clear ho1)) | (go_at_call 11; (with_reducible refine (gangwaylaw14_num.calls t109 t114 _ A6.out).mono ?_); rintro e w' ⟨rfl, ⟨nd, rfl⟩⟩; (try first | exact ⟨rfl, _, World.drewN_drewN _ _ _⟩ | exact ⟨rfl, _, Eq.trans (World.drewN_drewN _ _ _) (congrArg (World.drewN _) (Nat.add_assoc _ _ _))⟩))); try go_wp2_with (first | (go_at_call 8; (with_reducible refine (gangwaylaw14_tables.calls k _ _ l0 _ _ l1 t101 t102 _ ?side1 ?side2 ?side3 ?side4 A4.out).mono ?_); (case side1 => exact Kd.C_o HR0.out); (case side2 => exact HC0.out); (case side3 => exact Kd.C_o HR1.out); (case side4 => exact HC1.out); rintro e w8 ⟨v103, v105, rfl, ho0, ho1, hb⟩; refine mv3 (am (Kd.S_lower ho0 (below_size (by exact bl_o HB.out)))) (am (Kd.S_lower ho1 (below_size (by exact bl_o HB.out)))) (am (below_step (by exact bl_o HB.out) hb)) ?_; clear HB; intro HO104 HO106 HB; (try clear ho1); obtain ⟨Ao9, co9, eo9⟩ := Kd.S_slice HO104.out; subst eo9; obtain ⟨Ao10, co10, eo10⟩ := Kd.S_slice HO106.out; subst eo10) | (go_at_call 9; (with_reducible refine (ehframe_Write.calls k _ _ t101 _ _ t102 a2 false t107 t108 t109 _ ?side1 ?side2 ?side3 ?side4 A5.out).mono ?_); (case side1 => exact Kd.C_o ((Kd.S_reads' HO104.out).2.2)); (case side2 => exact (Kd.S_reads' HO104.out).2.1); (case side3 => exact Kd.C_o ((Kd.S_reads' HO106.out).2.2)); (case side4 => exact (Kd.S_reads' HO106.out).2.1); rintro e w11 ⟨v110, v112, rfl, ho0, ho1, hb⟩; refine mv5 (am (Kd.S_below (by (with_reducible repeat (first | apply Kd.S_alloc | apply Kd.S_drewN | apply Kd.S_drew)); exact HO104.out) hb)) (am (Kd.S_below (by (with_reducible repeat (first | apply Kd.S_alloc | apply Kd.S_drewN | apply Kd.S_drew)); exact HO106.out) hb)) (am (Kd.R_lower ho0 (below_size (by exact bl_o HB.out)))) (am (Kd.R_lower ho1 (below_size (by exact bl_o HB.out)))) (am (below_step (by exact bl_o HB.out) hb)) ?_; clear HO104 HO106 HB; intro HO104 HO106 HO111 HO113 HB; (try clear ho1)) | (go_at_call 11; (with_reducible refine (gangwaylaw14_num.calls t109 t114 _ A6.out).mono ?_); rintro e w' ⟨rfl, ⟨nd, rfl⟩⟩; (try first | exact ⟨rfl, _, World.drewN_drewN _ _ _⟩ | exact ⟨rfl, _, Eq.trans (World.drewN_drewN _ _ _) (congrArg (World.drewN _) (Nat.add_assoc _ _ _))⟩))))
 go_loopg [12, 13] k (fun kq v12 v13 w' => ∃ (x12_1 : Int) (x13_1 : Int), v12 = .int .i64 x12_1 ∧ v13 = .int .i64 x13_1 ∧ Aside0 (gangwaylaw14_EhframeWhole.l0 kq l0 l1 a2 t107 t108 x12_1 x13_1 = some r) ∧ Aside0 (kq ≤ k) ∧ Aside0 (Kd.R (Kd.int .u8) 5 w' w.heap.size (fun _ => True) v110 t107) ∧ Aside0 (Kd.R (Kd.int .i64) 3 w' w.heap.size (fun _ => True) v112 t108) ∧ Aside0 (Below w.heap.size w w'))
 case atStart => exact ⟨(0), (0), (by first | rfl | (simp; done) | (simp [*]; done)), (by first | rfl | (simp; done) | (simp [*]; done)), H', ⟨Nat.le_refl _⟩, ⟨by (with_reducible repeat (first | apply Kd.R_alloc | apply Kd.R_drewN | apply Kd.R_drew)); exact HO111.out⟩, ⟨by (with_reducible repeat (first | apply Kd.R_alloc | apply Kd.R_drewN | apply Kd.R_drew)); exact HO113.out⟩, ⟨by exact bl_g HB.out⟩⟩
 case round =>
  clear H'
  try clear c1
  try clear p2
  try clear c7
  try clear c7b0
  try clear c7b1
  obtain ⟨x12_1, x13_1, rfl, rfl, HA, HK1, HO_9, HO_10, HB⟩ := hrel
  cases gk with
  | zero => exact absurd HA.out (by simp [gangwaylaw14_EhframeWhole.l0])
  | succ k1 =>
   have H := HA.out
   clear HA
   simp only [gangwaylaw14_EhframeWhole.l0] at H
   by_cases c12 : x13_1 < (t107.length : Int)
   ·
    rw [if_pos c12] at H
    have c12b0 : decide (x13_1 < (t107.length : Int)) = true := decide_eq_true c12
    clear c12
    have HC13 := am H
    clear H
    obtain ⟨Ao14, co14, eo14⟩ := Kd.R_slice HO_9.out
    subst eo14
    go_upto_region 9 with (fail)
    repeat (go_quiet (fail); go_upto_region 9 with (fail))
    go_cut [50] (fun v50 wc => ∃ (kq : Nat) (x50_12 : Bool), v50 = .bool x50_12 ∧ Aside0 (gangwaylaw14_EhframeWhole.j1 kq l0 l1 a2 t107 t108 x12_1 x13_1 x50_12 = some r) ∧ Aside0 (kq ≤ k1) ∧ Aside0 (Kd.R (Kd.int .u8) 5 wc w.heap.size (fun _ => True) (.slice Ao14 t107.length co14) t107) ∧ Aside0 (Kd.R (Kd.int .i64) 3 wc w.heap.size (fun _ => True) v112 t108) ∧ Aside0 (Below w.heap.size w wc))
    case first =>
     have H := HC13.out
     clear HC13
     by_cases c15 : (wrap64 (x13_1 + 8)) > (t107.length : Int)
     ·
      rw [if_pos c15] at H
      have c15b0 : decide ((t107.length : Int) < (wrap64 (x13_1 + 8))) = true := decide_eq_true c15
      clear c15
      (first | rw [c15b0] | (simp only [i64_w, i32_w]; rw [c15b0]) | skip)
      have H' := am H
      clear H
      go_wp2
      repeat (go_quiet (fail); try go_wp2)
      go_meet
      case rel => exact ⟨_, (true), (by first | rfl | (simp; done) | (simp [*]; done)), H', ⟨by have := HK1.out; first | omega | exact Nat.le_refl _⟩, ⟨by (with_reducible repeat (first | apply Kd.R_alloc | apply Kd.R_drewN | apply Kd.R_drew)); exact HO_9.out⟩, ⟨by (with_reducible repeat (first | apply Kd.R_alloc | apply Kd.R_drewN | apply Kd.R_drew)); exact HO_10.out⟩, ⟨by exact bl_g HB.out⟩⟩
     rw [if_neg c15] at H
     have c15b0 : decide ((t107.length : Int) < (wrap64 (x13_1 + 8))) = false := decide_eq_false c15
     clear c15
     (first | rw [c15b0] | (simp only [i64_w, i32_w]; rw [c15b0]) | skip)
     have H' := am H
     clear H
     go_wp2
     repeat (go_quiet (fail); try go_wp2)
     go_meet
     case rel => exact ⟨_, (((Int.tmod x13_1 8) != 0)), (by first | rfl | (simp; done) | (simp [*]; done)), H', ⟨by have := HK1.out; first | omega | exact Nat.le_refl _⟩, ⟨by (with_reducible repeat (first | apply Kd.R_alloc | apply Kd.R_drewN | apply Kd.R_drew)); exact HO_9.out⟩, ⟨by (with_reducible repeat (first | apply Kd.R_alloc | apply Kd.R_drewN | apply Kd.R_drew)); exact HO_10.out⟩, ⟨by exact bl_g HB.out⟩⟩
    case rest =>
     clear HC13
     try clear c1
     try clear p2
     try clear p6
     try clear c7
     try clear c7b0
     try clear c7b1
     try clear c12
     try clear c12b0
     try clear c15
     try clear c15b0
     try clear p2
     obtain ⟨kq, x50_12, rfl, HA, HJ12, HO_9, HO_10, HB⟩ := hcut
     cases kq with
     | zero => exact absurd HA.out (by simp [gangwaylaw14_EhframeWhole.j1])
     | succ kj12 =>
      have H := HA.out
      clear HA
      simp only [gangwaylaw14_EhframeWhole.j1] at H
      by_cases c16 : x50_12 = true
      ·
       subst c16
       replace H : (none) = some r := by rw [if_pos rfl] at H; exact H
       exact absurd H (by simp)
      replace c16 := Bool.eq_false_iff.mpr c16
      subst c16
      replace H : (if 0 ≤ x13_1 then (if x13_1 < (t107.length : Int) then (if 0 ≤ (wrap64 (x13_1 + 1)) then (if (wrap64 (x13_1 + 1)) < (t107.length : Int) then (if 0 ≤ (wrap64 (x13_1 + 2)) then (if (wrap64 (x13_1 + 2)) < (t107.length : Int) then (if 0 ≤ (wrap64 (x13_1 + 3)) then (if (wrap64 (x13_1 + 3)) < (t107.length : Int) then (if (wrap64 ((wrap64 ((wrap64 ((wrap64 ((wrap64 (x13_1 + 4)) + (wrap64 (rd t107 x13_1)))) + (wrap64 ((wrap64 (rd t107 (wrap64 (x13_1 + 1)))) * 256)))) + (wrap64 ((wrap64 (rd t107 (wrap64 (x13_1 + 2)))) * 65536)))) + (wrap64 ((wrap64 (rd t107 (wrap64 (x13_1 + 3)))) * 16777216)))) > (t107.length : Int) then (none) else (gangwaylaw14_EhframeWhole.l0 kj12 l0 l1 a2 t107 t108 (wrap64 (x12_1 + 1)) (wrap64 ((wrap64 ((wrap64 ((wrap64 ((wrap64 (x13_1 + 4)) + (wrap64 (rd t107 x13_1)))) + (wrap64 ((wrap64 (rd t107 (wrap64 (x13_1 + 1)))) * 256)))) + (wrap64 ((wrap64 (rd t107 (wrap64 (x13_1 + 2)))) * 65536)))) + (wrap64 ((wrap64 (rd t107 (wrap64 (x13_1 + 3)))) * 16777216)))))) else (none)) else (none)) else (none)) else (none)) else (none)) else (none)) else (none)) else (none)) = some r := by rw [if_neg (show ¬ (false = true) by decide)] at H; exact H
      by_cases c17 : 0 ≤ x13_1
      rotate_left
      ·
       rw [if_neg c17] at H
       exact absurd H (by simp)
      rw [if_pos c17] at H
      have c17b0 : decide (0 ≤ x13_1) = true := decide_eq_true c17
      clear c17
      by_cases c18 : x13_1 < (t107.length : Int)
      rotate_left
      ·
       rw [if_neg c18] at H
       exact absurd H (by simp)
      rw [if_pos c18] at H
      have c18b0 : decide (x13_1 < (t107.length : Int)) = true := decide_eq_true c18
      clear c18
      obtain ⟨ji19, hji19⟩ : ∃ j_ : Int, (wrap64 (x13_1 + 1)) = j_ := ⟨_, rfl⟩
      replace H : (if 0 ≤ (ji19) then (if (ji19) < (t107.length : Int) then (if 0 ≤ (wrap64 (x13_1 + 2)) then (if (wrap64 (x13_1 + 2)) < (t107.length : Int) then (if 0 ≤ (wrap64 (x13_1 + 3)) then (if (wrap64 (x13_1 + 3)) < (t107.length : Int) then (if (wrap64 ((wrap64 ((wrap64 ((wrap64 ((wrap64 (x13_1 + 4)) + (wrap64 (rd t107 x13_1)))) + (wrap64 ((wrap64 (rd t107 (ji19))) * 256)))) + (wrap64 ((wrap64 (rd t107 (wrap64 (x13_1 + 2)))) * 65536)))) + (wrap64 ((wrap64 (rd t107 (wrap64 (x13_1 + 3)))) * 16777216)))) > (t107.length : Int) then (none) else (gangwaylaw14_EhframeWhole.l0 kj12 l0 l1 a2 t107 t108 (wrap64 (x12_1 + 1)) (wrap64 ((wrap64 ((wrap64 ((wrap64 ((wrap64 (x13_1 + 4)) + (wrap64 (rd t107 x13_1)))) + (wrap64 ((wrap64 (rd t107 (ji19))) * 256)))) + (wrap64 ((wrap64 (rd t107 (wrap64 (x13_1 + 2)))) * 65536)))) + (wrap64 ((wrap64 (rd t107 (wrap64 (x13_1 + 3)))) * 16777216)))))) else (none)) else (none)) else (none)) else (none)) else (none)) else (none)) = some r := by first | (rw [hji19] at H; exact H) | (simp only [hji19] at H ⊢; exact H)
      have hji19w : (IntKind.i64.wrap (x13_1 + 1)) = ji19 := (i64_w _).trans hji19
      by_cases c20 : 0 ≤ (ji19)
      rotate_left
      ·
       rw [if_neg c20] at H
       exact absurd H (by simp)
      rw [if_pos c20] at H
      have c20b0 : decide (0 ≤ (ji19)) = true := decide_eq_true c20
      clear c20
      by_cases c21 : (ji19) < (t107.length : Int)
      rotate_left
      ·
       rw [if_neg c21] at H
       exact absurd H (by simp)
      rw [if_pos c21] at H
      have c21b0 : decide ((ji19) < (t107.length : Int)) = true := decide_eq_true c21
      clear c21
      obtain ⟨ji22, hji22⟩ : ∃ j_ : Int, (wrap64 (x13_1 + 2)) = j_ := ⟨_, rfl⟩
      replace H : (if 0 ≤ (ji22) then (if (ji22) < (t107.length : Int) then (if 0 ≤ (wrap64 (x13_1 + 3)) then (if (wrap64 (x13_1 + 3)) < (t107.length : Int) then (if (wrap64 ((wrap64 ((wrap64 ((wrap64 ((wrap64 (x13_1 + 4)) + (wrap64 (rd t107 x13_1)))) + (wrap64 ((wrap64 (rd t107 (ji19))) * 256)))) + (wrap64 ((wrap64 (rd t107 (ji22))) * 65536)))) + (wrap64 ((wrap64 (rd t107 (wrap64 (x13_1 + 3)))) * 16777216)))) > (t107.length : Int) then (none) else (gangwaylaw14_EhframeWhole.l0 kj12 l0 l1 a2 t107 t108 (wrap64 (x12_1 + 1)) (wrap64 ((wrap64 ((wrap64 ((wrap64 ((wrap64 (x13_1 + 4)) + (wrap64 (rd t107 x13_1)))) + (wrap64 ((wrap64 (rd t107 (ji19))) * 256)))) + (wrap64 ((wrap64 (rd t107 (ji22))) * 65536)))) + (wrap64 ((wrap64 (rd t107 (wrap64 (x13_1 + 3)))) * 16777216)))))) else (none)) else (none)) else (none)) else (none)) = some r := by first | (rw [hji22] at H; exact H) | (simp only [hji22] at H ⊢; exact H)
      have hji22w : (IntKind.i64.wrap (x13_1 + 2)) = ji22 := (i64_w _).trans hji22
      by_cases c23 : 0 ≤ (ji22)
      rotate_left
      ·
       rw [if_neg c23] at H
       exact absurd H (by simp)
      rw [if_pos c23] at H
      have c23b0 : decide (0 ≤ (ji22)) = true := decide_eq_true c23
      clear c23
      by_cases c24 : (ji22) < (t107.length : Int)
      rotate_left
      ·
       rw [if_neg c24] at H
       exact absurd H (by simp)
      rw [if_pos c24] at H
      have c24b0 : decide ((ji22) < (t107.length : Int)) = true := decide_eq_true c24
      clear c24
      obtain ⟨ji25, hji25⟩ : ∃ j_ : Int, (wrap64 (x13_1 + 3)) = j_ := ⟨_, rfl⟩
      replace H : (if 0 ≤ (ji25) then (if (ji25) < (t107.length : Int) then (if (wrap64 ((wrap64 ((wrap64 ((wrap64 ((wrap64 (x13_1 + 4)) + (wrap64 (rd t107 x13_1)))) + (wrap64 ((wrap64 (rd t107 (ji19))) * 256)))) + (wrap64 ((wrap64 (rd t107 (ji22))) * 65536)))) + (wrap64 ((wrap64 (rd t107 (ji25))) * 16777216)))) > (t107.length : Int) then (none) else (gangwaylaw14_EhframeWhole.l0 kj12 l0 l1 a2 t107 t108 (wrap64 (x12_1 + 1)) (wrap64 ((wrap64 ((wrap64 ((wrap64 ((wrap64 (x13_1 + 4)) + (wrap64 (rd t107 x13_1)))) + (wrap64 ((wrap64 (rd t107 (ji19))) * 256)))) + (wrap64 ((wrap64 (rd t107 (ji22))) * 65536)))) + (wrap64 ((wrap64 (rd t107 (ji25))) * 16777216)))))) else (none)) else (none)) = some r := by first | (rw [hji25] at H; exact H) | (simp only [hji25] at H ⊢; exact H)
      have hji25w : (IntKind.i64.wrap (x13_1 + 3)) = ji25 := (i64_w _).trans hji25
      by_cases c26 : 0 ≤ (ji25)
      rotate_left
      ·
       rw [if_neg c26] at H
       exact absurd H (by simp)
      rw [if_pos c26] at H
      have c26b0 : decide (0 ≤ (ji25)) = true := decide_eq_true c26
      clear c26
      by_cases c27 : (ji25) < (t107.length : Int)
      rotate_left
      ·
       rw [if_neg c27] at H
       exact absurd H (by simp)
      rw [if_pos c27] at H
      have c27b0 : decide ((ji25) < (t107.length : Int)) = true := decide_eq_true c27
      clear c27
      by_cases c28 : (wrap64 ((wrap64 ((wrap64 ((wrap64 ((wrap64 (x13_1 + 4)) + (wrap64 (rd t107 x13_1)))) + (wrap64 ((wrap64 (rd t107 (ji19))) * 256)))) + (wrap64 ((wrap64 (rd t107 (ji22))) * 65536)))) + (wrap64 ((wrap64 (rd t107 (ji25))) * 16777216)))) > (t107.length : Int)
      ·
       rw [if_pos c28] at H
       exact absurd H (by simp)
      rw [if_neg c28] at H
      have c28b0 : decide ((t107.length : Int) < (wrap64 ((wrap64 ((wrap64 ((wrap64 ((wrap64 (x13_1 + 4)) + (wrap64 (rd t107 x13_1)))) + (wrap64 ((wrap64 (rd t107 (ji19))) * 256)))) + (wrap64 ((wrap64 (rd t107 (ji22))) * 65536)))) + (wrap64 ((wrap64 (rd t107 (ji25))) * 16777216))))) = false := decide_eq_false c28
      clear c28
      have H' := am H
      clear H
      have p116 : 0 ≤ (x13_1 : Int) := od
      have q116 : x13_1 < (t107.length : Int) := od
      obtain ⟨ad116, e116, hx116_0⟩ := Kd.at_int (Kd.R_reads' HO_9.out).2.2 x13_1 p116 q116
      cases e116
      replace p116 := eq_true p116
      replace q116 := eq_true q116
      have p117 : 0 ≤ ((ji19) : Int) := od
      have q117 : (ji19) < (t107.length : Int) := od
      obtain ⟨ad117, e117, hx117_0⟩ := Kd.at_int (Kd.R_reads' HO_9.out).2.2 (ji19) p117 q117
      obtain rfl : ad116 = ad117 := (by injection e117)
      replace p117 := eq_true p117
      replace q117 := eq_true q117
      have p118 : 0 ≤ ((ji22) : Int) := od
      have q118 : (ji22) < (t107.length : Int) := od
      obtain ⟨ad118, e118, hx118_0⟩ := Kd.at_int (Kd.R_reads' HO_9.out).2.2 (ji22) p118 q118
      obtain rfl : ad116 = ad118 := (by injection e118)
      replace p118 := eq_true p118
      replace q118 := eq_true q118
      have p119 : 0 ≤ ((ji25) : Int) := od
      have q119 : (ji25) < (t107.length : Int) := od
      obtain ⟨ad119, e119, hx119_0⟩ := Kd.at_int (Kd.R_reads' HO_9.out).2.2 (ji25) p119 q119
      obtain rfl : ad116 = ad119 := (by injection e119)
      replace p119 := eq_true p119
      replace q119 := eq_true q119
      go_wp2
      repeat (go_quiet (fail); try go_wp2)
      go_roundg kj12
      case measure => have := HK1.out; have := HJ12.out; omega
      case rel => exact ⟨(wrap64 (x12_1 + 1)), (wrap64 ((wrap64 ((wrap64 ((wrap64 ((wrap64 (x13_1 + 4)) + (wrap64 (rd t107 x13_1)))) + (wrap64 ((wrap64 (rd t107 (ji19))) * 256)))) + (wrap64 ((wrap64 (rd t107 (ji22))) * 65536)))) + (wrap64 ((wrap64 (rd t107 (ji25))) * 16777216)))), (by first | rfl | (simp; done) | (simp [*]; done)), (by first | rfl | (simp; done) | (simp only [← hji19, ← hji22, ← hji25] <;> (first | rfl | simp)) | (simp [*]; done)), H', ⟨by have := HK1.out; have := HJ12.out; omega⟩, ⟨by (with_reducible repeat (first | apply Kd.R_alloc | apply Kd.R_drewN | apply Kd.R_drew)); exact HO_9.out⟩, ⟨by (with_reducible repeat (first | apply Kd.R_alloc | apply Kd.R_drewN | apply Kd.R_drew)); exact HO_10.out⟩, ⟨by exact bl_g HB.out⟩⟩
   rw [if_neg c12] at H
   have c12b0 : decide (x13_1 < (t107.length : Int)) = false := decide_eq_false c12
   clear c12
   have HC29 := am H
   clear H
   obtain ⟨Ao30, co30, eo30⟩ := Kd.R_slice HO_9.out
   subst eo30
   go_upto_region 14 with (fail)
   repeat (go_quiet (fail); go_upto_region 14 with (fail))
   go_cut [100] (fun v100 wc => ∃ (kq : Nat) (x100_28 : Bool), v100 = .bool x100_28 ∧ Aside0 (gangwaylaw14_EhframeWhole.j2 kq a2 t107 x100_28 = some r) ∧ Aside0 (kq ≤ k1) ∧ Aside0 (Kd.R (Kd.int .u8) 5 wc w.heap.size (fun _ => True) (.slice Ao30 t107.length co30) t107) ∧ Aside0 (Below w.heap.size w wc))
   case first =>
    have H := HC29.out
    clear HC29
    by_cases c31 : x12_1 = (wrap64 ((l0.length : Int) + (l1.length : Int)))
    ·
     rw [if_pos c31] at H
     have c31b0 : (x12_1 == (wrap64 ((l0.length : Int) + (l1.length : Int)))) = true := beq_iff_eq.mpr c31
     have c31b1 : (x12_1 != (wrap64 ((l0.length : Int) + (l1.length : Int)))) = false := bne_eq_false_iff_eq.mpr c31
     clear c31
     (first | rw [c31b0] | (simp only [i64_w, i32_w]; rw [c31b0]) | skip)
     have H' := am H
     clear H
     obtain ⟨Ao32, co32, eo32⟩ := Kd.R_slice HO_10.out
     subst eo32
     go_wp2
     repeat (go_quiet (fail); try go_wp2)
     go_meet
     case rel => exact ⟨_, (((t108.length : Int) != (l1.length : Int))), (by first | rfl | (simp; done) | (simp [*]; done)), H', ⟨by have := HK1.out; first | omega | exact Nat.le_refl _⟩, ⟨by (with_reducible repeat (first | apply Kd.R_alloc | apply Kd.R_drewN | apply Kd.R_drew)); exact HO_9.out⟩, ⟨by exact bl_g HB.out⟩⟩
    rw [if_neg c31] at H
    have c31b0 : (x12_1 == (wrap64 ((l0.length : Int) + (l1.length : Int)))) = false := beq_eq_false_iff_ne.mpr c31
    have c31b1 : (x12_1 != (wrap64 ((l0.length : Int) + (l1.length : Int)))) = true := bne_iff_ne.mpr c31
    (first | rw [c31b0] | (simp only [i64_w, i32_w]; rw [c31b0]) | skip)
    have H' := am H
    clear H
    go_wp2
    repeat (go_quiet (fail); try go_wp2)
    go_meet
    case rel => exact ⟨_, (true), (by first | rfl | (simp; done) | (simp [*]; done)), H', ⟨by have := HK1.out; first | omega | exact Nat.le_refl _⟩, ⟨by (with_reducible repeat (first | apply Kd.R_alloc | apply Kd.R_drewN | apply Kd.R_drew)); exact HO_9.out⟩, ⟨by exact bl_g HB.out⟩⟩
   case rest =>
    clear HC29
    try clear c1
    try clear p1
    try clear q1
    try clear hx1
    try clear c2
    try clear p2
    try clear c3
    try clear p6
    try clear c7
    try clear c7b0
    try clear c7b1
    try clear p11
    try clear q11
    try clear hx11
    try clear c12
    try clear c12b0
    try clear c15
    try clear c15b0
    try clear c16
    try clear c17
    try clear c17b0
    try clear c18
    try clear c18b0
    try clear c20
    try clear c20b0
    try clear c21
    try clear c21b0
    try clear c23
    try clear c23b0
    try clear c24
    try clear c24b0
    try clear c26
    try clear c26b0
    try clear c27
    try clear c27b0
    try clear c28
    try clear c28b0
    try clear c31
    try clear c31b0
    try clear c31b1
    try clear hx116_0
    try clear hx117_0
    try clear hx118_0
    try clear hx119_0
    try clear p116
    try clear p117
    try clear p118
    try clear p119
    try clear p2
    try clear p6
    try clear q116
    try clear q117
    try clear q118
    try clear q119
    obtain ⟨kq, x100_28, rfl, HA, HJ28, HO_9, HB⟩ := hcut
    cases kq with
    | zero => exact absurd HA.out (by simp [gangwaylaw14_EhframeWhole.j2])
    | succ kj28 =>
     have H := HA.out
     clear HA
     simp only [gangwaylaw14_EhframeWhole.j2] at H
     by_cases c33 : x100_28 = true
     ·
      subst c33
      replace H : (none) = some r := by rw [if_pos rfl] at H; exact H
      exact absurd H (by simp)
     replace c33 := Bool.eq_false_iff.mpr c33
     subst c33
     replace H : (if (t107.length : Int) = 0 then ((gangwaylaw14_live.f kj28).bind fun t120 => (some t120)) else (if 0 ≤ (wrap64 ((t107.length : Int) - 1)) then (if (wrap64 ((t107.length : Int) - 1)) ≤ (t107.length : Int) then ((ehframe_Read.f (t107.take ((wrap64 ((t107.length : Int) - 1)) : Int).toNat) a2).bind fun bt125 => ((gangwaylaw14_num.f bt125.2.2).bind fun t132 => (if t132 = 140 then ((gangwaylaw14_live.f kj28).bind fun t133 => (some t133)) else (none)))) else (none)) else (none))) = some r := by rw [if_neg (show ¬ (false = true) by decide)] at H; exact H
     by_cases c34 : (t107.length : Int) = 0
     ·
      rw [if_pos c34] at H
      have c34b0 : ((t107.length : Int) == 0) = true := beq_iff_eq.mpr c34
      have c34b1 : ((t107.length : Int) != 0) = false := bne_eq_false_iff_eq.mpr c34
      clear c34
      replace H := Option.bind_eq_some_iff.mp H
      obtain ⟨t120, A350, H⟩ := H
      replace H : (some t120) = some r := H
      have A35 := am A350
      clear A350
      obtain rfl := Option.some.inj H
      go_wp2_with (first | (go_at_call 15; (with_reducible refine (gangwaylaw14_live.calls kj28  t120 _ A35.out).mono ?_); rintro e w36 ⟨rfl, hb⟩; refine mv2 (am (Kd.R_below (Kd.R_o HO_9.out) hb)) (am (below_step (by exact bl_o HB.out) hb)) ?_; clear HO_9 HB; intro HO_9 HB))
      repeat (go_quiet (first | (go_at_call 15; (with_reducible refine (gangwaylaw14_live.calls kj28  t120 _ A35.out).mono ?_); rintro e w36 ⟨rfl, hb⟩; refine mv2 (am (Kd.R_below (Kd.R_o HO_9.out) hb)) (am (below_step (by exact bl_o HB.out) hb)) ?_; clear HO_9 HB; intro HO_9 HB)); try go_wp2_with (first | (go_at_call 15; (with_reducible refine (gangwaylaw14_live.calls kj28  t120 _ A35.out).mono ?_); rintro e w36 ⟨rfl, hb⟩; refine mv2 (am (Kd.R_below (Kd.R_o HO_9.out) hb)) (am (below_step (by exact bl_o HB.out) hb)) ?_; clear HO_9 HB; intro HO_9 HB)))
      go_ret
      exact ⟨rfl, by exact bl_g HB.out⟩
     rw [if_neg c34] at H
     have c34b0 : ((t107.length : Int) == 0) = false := beq_eq_false_iff_ne.mpr c34
     have c34b1 : ((t107.length : Int) != 0) = true := bne_iff_ne.mpr c34
     have c34b2 : ¬ (t107 = []) := fun h_ => c34 (by rw [h_]; rfl)
     obtain ⟨ji37, hji37⟩ : ∃ j_ : Int, (wrap64 ((t107.length : Int) - 1)) = j_ := ⟨_, rfl⟩
     replace H : (if 0 ≤ (ji37) then (if (ji37) ≤ (t107.length : Int) then ((ehframe_Read.f (t107.take ((ji37) : Int).toNat) a2).bind fun bt125 => ((gangwaylaw14_num.f bt125.2.2).bind fun t132 => (if t132 = 140 then ((gangwaylaw14_live.f kj28).bind fun t133 => (some t133)) else (none)))) else (none)) else (none)) = some r := by first | (rw [hji37] at H; exact H) | (simp only [hji37] at H ⊢; exact H)
     have hji37w : (IntKind.i64.wrap ((t107.length : Int) - 1)) = ji37 := (i64_w _).trans hji37
     by_cases c38 : 0 ≤ (ji37)
     rotate_left
     ·
      rw [if_neg c38] at H
      exact absurd H (by simp)
     rw [if_pos c38] at H
     have c38b0 := eq_true c38
     have c38b1 : decide (0 ≤ (ji37)) = true := decide_eq_true c38
     clear c38
     by_cases c39 : (ji37) ≤ (t107.length : Int)
     rotate_left
     ·
      rw [if_neg c39] at H
      exact absurd H (by simp)
     rw [if_pos c39] at H
     have c39b0 := eq_true c39
     have c39b1 : decide ((ji37) ≤ (t107.length : Int)) = true := decide_eq_true c39
     clear c39
     obtain ⟨y121, hy121⟩ : ∃ y_ : List Int, y_ = (t107.take ((ji37) : Int).toNat) := ⟨_, rfl⟩
     replace H : ((ehframe_Read.f y121 a2).bind fun bt125 => ((gangwaylaw14_num.f bt125.2.2).bind fun t132 => (if t132 = 140 then ((gangwaylaw14_live.f kj28).bind fun t133 => (some t133)) else (none)))) = some r := by first | (rw [hy121]; with_reducible exact H) | (have H2_ := (Option.bind_some _ _).symm.trans H; rw [hy121]; with_reducible exact H2_)
     have Ny121 := am hy121
     clear hy121
     replace H := Option.bind_eq_some_iff.mp H
     obtain ⟨⟨t125, t126, t127⟩, A400, H⟩ := H
     replace H : ((gangwaylaw14_num.f t127).bind fun t132 => (if t132 = 140 then ((gangwaylaw14_live.f kj28).bind fun t133 => (some t133)) else (none))) = some r := H
     have A40 := am A400
     clear A400
     replace H := Option.bind_eq_some_iff.mp H
     obtain ⟨t132, A410, H⟩ := H
     replace H : (if t132 = 140 then ((gangwaylaw14_live.f kj28).bind fun t133 => (some t133)) else (none)) = some r := H
     have A41 := am A410
     clear A410
     by_cases c42 : t132 = 140
     rotate_left
     ·
      rw [if_neg c42] at H
      exact absurd H (by simp)
     rw [if_pos c42] at H
     have c42b0 : (t132 == 140) = true := beq_iff_eq.mpr c42
     have c42b1 : (t132 != 140) = false := bne_eq_false_iff_eq.mpr c42
     clear c42
     replace H := Option.bind_eq_some_iff.mp H
     obtain ⟨t133, A430, H⟩ := H
     replace H : (some t133) = some r := H
     have A43 := am A430
     clear A430
     obtain rfl := Option.some.inj H
     have q44 : ((ji37) : Int) ≤ ((t107.length : Int) : Int) := od
     obtain ⟨i044, hi044, _, hsz44, _⟩ := info_parts info5
     have hroom44 : t107.length ≤ co30 := (Kd.R_reads' HO_9.out).2.1
     have hC44 : Kd.C (Kd.int .u8) _ Ao30 t107.length t107 := (Kd.R_reads' HO_9.out).2.2
     have hcut44 := cut_to (P := Try.prog) 28 5 .i64 Try.underlying28 hi044 Ao30 t107.length co30 (ji37) (od) q44 hroom44
     have hr44 := Kd.C_take (m := ((ji37) : Int).toNat) hC44 (by omega)
     have hy44 : y121.length = ((ji37) : Int).toNat := (by rw [Ny121.out, List.length_take]; omega)
     rw [← Ny121.out] at hr44
     rw [← hy44] at hcut44
     have HR124 := am hr44
     have HC124 := am (show y121.length ≤ co30 from by omega)
     clear hr44 hC44 hroom44 hi044 hsz44
     have KY44 := am hy44
     clear hy44
     have KL44 := am (show ((ji37) : Int).toNat ≤ t107.length from by omega)
     replace q44 := eq_true q44
     go_wp2_with (first | (go_at_call 21; (with_reducible refine (ehframe_Read.calls _ _ y121 a2 t125 t126 t127 _ ?side1 ?side2 A40.out).mono ?_); (case side1 => repeat (first | exact (by repeat (first | (with_reducible exact HR124.out) | (with_reducible refine Kd.C_alloc ?_ _) | (with_reducible refine Kd.C_drewN ?_ _) | (with_reducible refine Kd.C_drew ?_) | exact HR124.out)) | (with_reducible refine Kd.C_alloc ?_ _) | (with_reducible refine Kd.C_drewN ?_ _) | (with_reducible refine Kd.C_drew ?_))); (case side2 => exact HC124.out); rintro e w45 ⟨v128, v130, rfl, ho0, ho1, hb⟩; refine mv5 (am (Kd.R_below (Kd.R_o HO_9.out) hb)) (am (Kd.S_lower ho0 (below_size (by exact bl_o HB.out)))) (am (Kd.S_lower ho1 (below_size (by exact bl_o HB.out)))) (am (Kd.C_below (by repeat (first | (with_reducible exact HR124.out) | (with_reducible refine Kd.C_alloc ?_ _) | (with_reducible refine Kd.C_drewN ?_ _) | (with_reducible refine Kd.C_drew ?_) | exact HR124.out)) hb)) (am (below_step (by exact bl_o HB.out) hb)) ?_; clear HO_9 HR124 HB; intro HO_9 HO129 HO131 HR124 HB; (try clear ho1)) | (go_at_call 11; (with_reducible refine (gangwaylaw14_num.calls t127 t132 _ A41.out).mono ?_); rintro e w' ⟨rfl, ⟨nd, rfl⟩⟩; (try first | exact ⟨rfl, _, World.drewN_drewN _ _ _⟩ | exact ⟨rfl, _, Eq.trans (World.drewN_drewN _ _ _) (congrArg (World.drewN _) (Nat.add_assoc _ _ _))⟩)) | (go_at_call 15; (with_reducible refine (gangwaylaw14_live.calls kj28  t133 _ A43.out).mono ?_); rintro e w46 ⟨rfl, hb⟩; refine mv5 (am (Kd.R_below (Kd.R_o HO_9.out) hb)) (am (Kd.S_below (by (with_reducible repeat (first | apply Kd.S_alloc | apply Kd.S_drewN | apply Kd.S_drew)); exact HO129.out) hb)) (am (Kd.S_below (by (with_reducible repeat (first | apply Kd.S_alloc | apply Kd.S_drewN | apply Kd.S_drew)); exact HO131.out) hb)) (am (Kd.C_below (by repeat (first | (with_reducible exact HR124.out) | (with_reducible refine Kd.C_alloc ?_ _) | (with_reducible refine Kd.C_drewN ?_ _) | (with_reducible refine Kd.C_drew ?_) | exact HR124.out)) hb)) (am (below_step (by exact bl_o HB.out) hb)) ?_; clear HO_9 HO129 HO131 HR124 HB; intro HO_9 HO129 HO131 HR124 HB))
     repeat (go_quiet (first | (go_at_call 21; (with_reducible refine (ehframe_Read.calls _ _ y121 a2 t125 t126 t127 _ ?side1 ?side2 A40.out).mono ?_); (case side1 => repeat (first | exact (by repeat (first | (with_reducible exact HR124.out) | (with_reducible refine Kd.C_alloc ?_ _) | (with_reducible refine Kd.C_drewN ?_ _) | (with_reducible refine Kd.C_drew ?_) | exact HR124.out)) | (with_reducible refine Kd.C_alloc ?_ _) | (with_reducible refine Kd.C_drewN ?_ _) | (with_reducible refine Kd.C_drew ?_))); (case side2 => exact HC124.out); rintro e w45 ⟨v128, v130, rfl, ho0, ho1, hb⟩; refine mv5 (am (Kd.R_below (Kd.R_o HO_9.out) hb)) (am (Kd.S_lower ho0 (below_size (by exact bl_o HB.out)))) (am (Kd.S_lower ho1 (below_size (by exact bl_o HB.out)))) (am (Kd.C_below (by repeat (first | (with_reducible exact HR124.out) | (with_reducible refine Kd.C_alloc ?_ _) | (with_reducible refine Kd.C_drewN ?_ _) | (with_reducible refine Kd.C_drew ?_) | exact HR124.out)) hb)) (am (below_step (by exact bl_o HB.out) hb)) ?_; clear HO_9 HR124 HB; intro HO_9 HO129 HO131 HR124 HB; (try clear ho1)) | (go_at_call 11; (with_reducible refine (gangwaylaw14_num.calls t127 t132 _ A41.out).mono ?_); rintro e w' ⟨rfl, ⟨nd, rfl⟩⟩; (try first | exact ⟨rfl, _, World.drewN_drewN _ _ _⟩ | exact ⟨rfl, _, Eq.trans (World.drewN_drewN _ _ _) (congrArg (World.drewN _) (Nat.add_assoc _ _ _))⟩)) | (go_at_call 15; (with_reducible refine (gangwaylaw14_live.calls kj28  t133 _ A43.out).mono ?_); rintro e w46 ⟨rfl, hb⟩; refine mv5 (am (Kd.R_below (Kd.R_o HO_9.out) hb)) (am (Kd.S_below (by (with_reducible repeat (first | apply Kd.S_alloc | apply Kd.S_drewN | apply Kd.S_drew)); exact HO129.out) hb)) (am (Kd.S_below (by (with_reducible repeat (first | apply Kd.S_alloc | apply Kd.S_drewN | apply Kd.S_drew)); exact HO131.out) hb)) (am (Kd.C_below (by repeat (first | (with_reducible exact HR124.out) | (with_reducible refine Kd.C_alloc ?_ _) | (with_reducible refine Kd.C_drewN ?_ _) | (with_reducible refine Kd.C_drew ?_) | exact HR124.out)) hb)) (am (below_step (by exact bl_o HB.out) hb)) ?_; clear HO_9 HO129 HO131 HR124 HB; intro HO_9 HO129 HO131 HR124 HB)); try go_wp2_with (first | (go_at_call 21; (with_reducible refine (ehframe_Read.calls _ _ y121 a2 t125 t126 t127 _ ?side1 ?side2 A40.out).mono ?_); (case side1 => repeat (first | exact (by repeat (first | (with_reducible exact HR124.out) | (with_reducible refine Kd.C_alloc ?_ _) | (with_reducible refine Kd.C_drewN ?_ _) | (with_reducible refine Kd.C_drew ?_) | exact HR124.out)) | (with_reducible refine Kd.C_alloc ?_ _) | (with_reducible refine Kd.C_drewN ?_ _) | (with_reducible refine Kd.C_drew ?_))); (case side2 => exact HC124.out); rintro e w45 ⟨v128, v130, rfl, ho0, ho1, hb⟩; refine mv5 (am (Kd.R_below (Kd.R_o HO_9.out) hb)) (am (Kd.S_lower ho0 (below_size (by exact bl_o HB.out)))) (am (Kd.S_lower ho1 (below_size (by exact bl_o HB.out)))) (am (Kd.C_below (by repeat (first | (with_reducible exact HR124.out) | (with_reducible refine Kd.C_alloc ?_ _) | (with_reducible refine Kd.C_drewN ?_ _) | (with_reducible refine Kd.C_drew ?_) | exact HR124.out)) hb)) (am (below_step (by exact bl_o HB.out) hb)) ?_; clear HO_9 HR124 HB; intro HO_9 HO129 HO131 HR124 HB; (try clear ho1)) | (go_at_call 11; (with_reducible refine (gangwaylaw14_num.calls t127 t132 _ A41.out).mono ?_); rintro e w' ⟨rfl, ⟨nd, rfl⟩⟩; (try first | exact ⟨rfl, _, World.drewN_drewN _ _ _⟩ | exact ⟨rfl, _, Eq.trans (World.drewN_drewN _ _ _) (congrArg (World.drewN _) (Nat.add_assoc _ _ _))⟩)) | (go_at_call 15; (with_reducible refine (gangwaylaw14_live.calls kj28  t133 _ A43.out).mono ?_); rintro e w46 ⟨rfl, hb⟩; refine mv5 (am (Kd.R_below (Kd.R_o HO_9.out) hb)) (am (Kd.S_below (by (with_reducible repeat (first | apply Kd.S_alloc | apply Kd.S_drewN | apply Kd.S_drew)); exact HO129.out) hb)) (am (Kd.S_below (by (with_reducible repeat (first | apply Kd.S_alloc | apply Kd.S_drewN | apply Kd.S_drew)); exact HO131.out) hb)) (am (Kd.C_below (by repeat (first | (with_reducible exact HR124.out) | (with_reducible refine Kd.C_alloc ?_ _) | (with_reducible refine Kd.C_drewN ?_ _) | (with_reducible refine Kd.C_drew ?_) | exact HR124.out)) hb)) (am (below_step (by exact bl_o HB.out) hb)) ?_; clear HO_9 HO129 HO131 HR124 HB; intro HO_9 HO129 HO131 HR124 HB)))
     go_ret
     exact ⟨by first | rfl | (simp [errW_none, errW_some] <;> rfl) | (simp only [← hji37]; first | rfl | (simp [errW_none, errW_some] <;> rfl)) | (simp [*, errW_none, errW_some] <;> rfl), by exact bl_g HB.out⟩
end Go.Proofs.Ytfgfnflhdabmcaa.G
end
section
namespace Go.Proofs.Ytfgfnflhdabmcaa.Stmt
open Go.RowKit Go.Proofs.Ytfgfnflhdabmcaa.G Go.Proofs.YtfgfnflhdabmcaaW.PrintWords
def wf97 (x : S97) : Prop := ((Lit.int .i64 x.f0).wf = true) ∧ ((Lit.int .i64 x.f1).wf = true) ∧ ((Lit.int .i64 x.f2).wf = true)
def wt97 (x : S97) : Nat := (1 + (1 + (1))) + 1
def wf43 (x : S43) : Prop := ((Lit.int .i64 x.f0).wf = true) ∧ (x.f1.length * 24 ≤ 140737488351232 ∧ x.f1.length ≤ 9223372036854775807 ∧ ∀ y1 ∈ x.f1, wf97 y1)
def wt43 (x : S43) : Nat := (1 + (((x.f1.map wt97).sum + 1))) + 1
def wf61 (x : S61) : Prop := ((Lit.int .i64 x.f0).wf = true) ∧ ((Lit.int .i64 x.f1).wf = true) ∧ ((Lit.int .i64 x.f2).wf = true) ∧ (x.f3.length * 24 ≤ 140737488351232 ∧ x.f3.length ≤ 9223372036854775807 ∧ ∀ y1 ∈ x.f3, wf97 y1)
def wt61 (x : S61) : Nat := (1 + (1 + (1 + (((x.f3.map wt97).sum + 1))))) + 1
def EhframeWhole : Prop := ∀ (l0 : List (S43)) (l1 : List (S61)) (a2 : Int), (l0.length * 32 ≤ 140737488351232 ∧ l0.length ≤ 9223372036854775807 ∧ ∀ y1 ∈ l0, wf43 y1) → (l1.length * 48 ≤ 140737488351232 ∧ l1.length ≤ 9223372036854775807 ∧ ∀ y1 ∈ l1, wf61 y1) → ((Lit.int .i64 a2).wf = true) → ∃ k, G.gangwaylaw14_EhframeWhole.f k l0 l1 a2 = some true
end Go.Proofs.Ytfgfnflhdabmcaa.Stmt
end
section
namespace Go.Proofs.Ytfgfnflhdabmcaa.CfaB
open Go.RowKit Go.Proofs.Ytfgfnflhdabmcaa.G Go.Proofs.YtfgfnflhdabmcaaW.PrintWords Go.Proofs.YtfgfnflhdabmcaaW.PrintLast Go.Proofs.YtfgfnflhdabmcaaW.PrintMore Go.Proofs.Ytfgfnflhdabmcaa.Bit Go.Proofs.Ytfgfnflhdabmcaa.Leb Go.Proofs.Ytfgfnflhdabmcaa.Cfa
theorem bytes_f {k r n : Int} (h : mayF k r n = true) (kk : Nat) (hk : 12 ≤ kk) : cfa_Op_bytes.f kk k r n = some (opB k r n) := if_pos h
/-- what Write writes -/
def outB : List (Int × Int × Int) → List Int → List Int × Int
  | [], acc => (acc, 0)
  | (k, r, n) :: t, acc => if mayF k r n = true then outB t (acc ++ opB k r n) else ([], 130)
theorem opl_at (l : List S105) (i : Nat) (h : i < l.length) : opl (l.drop i) = ((rd_T105 l (i : Int)).f0, (rd_T105 l (i : Int)).f1, (rd_T105 l (i : Int)).f2) :: opl (l.drop (i + 1)) := by
  have hrd : rd_T105 l (i : Int) = l[i] := by simp [rd_T105, List.getD, h]
  rw [hrd, List.drop_eq_getElem_cons h]
  rfl
theorem write_l0 (l : List S105) (hl : l.length ≤ 4000) (d : Nat) : ∀ (kk i : Nat) (acc : List Int), i + d = l.length → d + 20 ≤ kk → acc.length ≤ 30 * i → cfa_Write.l0 kk acc l (l.length : Int) (i : Int) = some (outB (opl (l.drop i)) acc) := by
  induction d with
  | zero =>
    intro kk i acc h hk ha
    obtain ⟨kk, rfl⟩ : ∃ m, kk = m + 1 := ⟨kk - 1, by omega⟩
    rw [cfa_Write.l0, if_neg (by omega), List.drop_of_length_le (by omega)]
    rfl
  | succ d ih =>
    intro kk i acc h hk ha
    obtain ⟨kk, rfl⟩ : ∃ m, kk = m + 1 := ⟨kk - 1, by omega⟩
    rw [cfa_Write.l0, if_pos (by omega), if_pos (by omega), if_pos (by omega), opl_at l i (by omega)]
    generalize rd_T105 l (i : Int) = x
    unfold cfa_Op_may.f outB
    rw [Option.bind_some]
    by_cases c : mayF x.f0 x.f1 x.f2 = true
    · have hle := opB_le c
      rw [if_pos c, if_pos c, bytes_f c kk (by omega), Option.bind_some, if_pos (by omega), wrap64_id (by omega) (by omega), show (i : Int) + 1 = ((i + 1 : Nat) : Int) from by omega, ih kk (i + 1) _ (by omega) (by omega) (by rw [List.length_append]; omega)]
    · rw [if_neg c, if_neg c]
/-- what Write answers -/
def writeV (l : List (Int × Int × Int)) : List Int × Int := if l.length > 4000 then ([], 6) else outB l []
theorem write_f (l : List S105) (kk : Nat) (hk : l.length + 20 ≤ kk) : cfa_Write.f kk l = some (writeV (opl l)) := by
  unfold cfa_Write.f writeV
  rw [opl_length]
  by_cases c : l.length > 4000
  · rw [if_pos c, if_pos (by omega)]
  · rw [if_neg c, if_neg (by omega)]
    exact write_l0 l (by omega) l.length kk 0 [] (by omega) (by omega) (by simp)
end Go.Proofs.Ytfgfnflhdabmcaa.CfaB
end
section
namespace Go.Proofs.Ytfgfnflhdabmcaa.Leb
open Go.RowKit Go.Proofs.Ytfgfnflhdabmcaa.G Go.Proofs.YtfgfnflhdabmcaaW.PrintWords Go.Proofs.YtfgfnflhdabmcaaW.PrintLast Go.Proofs.YtfgfnflhdabmcaaW.PrintMore Go.Proofs.Ytfgfnflhdabmcaa.Bit
/-- bytes as a number, the low one first -/
def leN : List Int → Int
  | [] => 0
  | b :: bs => b + 256 * leN bs
/-- so many low bytes of a number -/
def leB (u : Int) : Nat → List Int
  | 0 => []
  | s + 1 => u % 256 :: leB (u / 256) s
theorem leB_length (s : Nat) : ∀ u, (leB u s).length = s := by
  induction s with
  | zero => intro u; rfl
  | succ s ih => intro u; simp [leB, ih]
theorem leB_range (s : Nat) : ∀ u, ∀ b ∈ leB u s, 0 ≤ b ∧ b ≤ 255 := by
  induction s with
  | zero => intro u b h; simp [leB] at h
  | succ s ih =>
    intro u b h
    simp only [leB, List.mem_cons] at h
    rcases h with rfl | h
    · omega
    · exact ih _ _ h
theorem pow256 (i : Nat) : (256 : Int) ^ (i + 1) = 256 * 256 ^ i := by rw [Int.pow_succ, Int.mul_comm]
theorem pow256_pos (i : Nat) : (0 : Int) < 256 ^ i := Int.pow_pos (by decide +kernel)
theorem leN_leB (s : Nat) : ∀ u, leN (leB u s) = u % 256 ^ s := by
  induction s with
  | zero => intro u; simp [leB, leN, Int.emod_one]
  | succ s ih =>
    intro u
    simp only [leB, leN]
    rw [ih, pow256]
    have h1 := Int.emod_add_mul_ediv u 256
    have h2 := Int.emod_add_mul_ediv (u / 256) (256 ^ s)
    have h3 : (0 : Int) ≤ (u / 256) % 256 ^ s := Int.emod_nonneg _ (by have := pow256_pos s; omega)
    have h4 : (u / 256) % 256 ^ s < 256 ^ s := Int.emod_lt_of_pos _ (pow256_pos s)
    have h5 : u = (u % 256 + 256 * ((u / 256) % 256 ^ s)) + (256 * 256 ^ s) * ((u / 256) / 256 ^ s) := by
      rw [Int.mul_assoc]
      generalize (256 : Int) ^ s * (u / 256 / 256 ^ s) = y at *
      omega
    have h6 : 0 ≤ u % 256 + 256 * ((u / 256) % 256 ^ s) ∧ u % 256 + 256 * ((u / 256) % 256 ^ s) < 256 * 256 ^ s := by omega
    generalize u % 256 + 256 * ((u / 256) % 256 ^ s) = z at *
    rw [h5, Int.add_mul_emod_self_left, Int.emod_eq_of_lt h6.1 h6.2]
theorem leN_range (l : List Int) (h : ∀ b ∈ l, 0 ≤ b ∧ b ≤ 255) : 0 ≤ leN l ∧ leN l < 256 ^ l.length := by
  induction l with
  | nil => simp [leN]
  | cons b bs ih =>
    have h1 := h b (by simp)
    have h2 := ih (fun x hx => h x (by simp [hx]))
    simp only [leN, List.length_cons, pow256]
    omega
theorem shr_bytes (u : Int) (i : Nat) (hi : i ≤ 8) : shr .u64 u (wrap64 (8 * (i : Int))) = u / 256 ^ i := by
  unfold shr
  rw [wrap64_id (by omega) (by omega), show (8 * (i : Int)).toNat = 8 * i from by omega, Nat.min_eq_left (by simp [IntKind.bits]; omega), show (2 : Int) ^ (8 * i) = 256 ^ i from by rw [Int.pow_mul]; rfl]
theorem low_l0 (d : Nat) : ∀ (k i : Nat) (u : Int) (s : Nat) (acc : List Int), s ≤ 8 → i ≤ s → s - i = d → d < k → acc.length ≤ 1000 - d → d ≤ 8 → leb_low_uint64.l0 k u acc (s : Int) (i : Int) = some (acc ++ leB (u / 256 ^ i) (s - i)) := by
  induction d with
  | zero =>
    intro k i u s acc hs hi hd hk ha _
    obtain ⟨k, rfl⟩ : ∃ m, k = m + 1 := ⟨k - 1, by omega⟩
    simp only [leb_low_uint64.l0]
    rw [if_neg (by omega), hd]
    simp [leB]
  | succ d ih =>
    intro k i u s acc hs hi hd hk ha hd8
    obtain ⟨k, rfl⟩ : ∃ m, k = m + 1 := ⟨k - 1, by omega⟩
    simp only [leb_low_uint64.l0]
    rw [if_pos (show (i : Int) < s by omega), shr_bytes u i (by omega), wrap64_id (n := 8 * (i : Int)) (by omega) (by omega), if_pos (show 0 ≤ 8 * (i : Int) by omega), if_pos (show acc.length < 140737488355328 by omega), wrap64_id (n := (i : Int) + 1) (by omega) (by omega), show (i : Int) + 1 = ((i + 1 : Nat) : Int) from by omega,
      ih k (i + 1) u s _ hs (by omega) (by omega) (by omega) (by simp; omega) (by omega), show s - i = (s - (i + 1)) + 1 from by omega]
    simp only [leB, List.append_assoc, List.singleton_append]
    rw [Int.pow_succ, Int.ediv_ediv_of_nonneg (by have := pow256_pos i; omega)]
theorem low_f (u : Int) (s : Nat) (hs : s ≤ 8) (k : Nat) (hk : 9 ≤ k) : leb_low_uint64.f k u (s : Int) = some (leB u s) := by
  unfold leb_low_uint64.f
  have := low_l0 s k 0 u s [] hs (by omega) (by omega) (by omega) (by simp) (by omega)
  simpa using this
/-- may a number have so many bytes? -/
def sizedB (s : Int) : Bool := s == 1 || s == 2 || s == 4 || s == 8
theorem sized_f (s : Int) : leb_sized.f s = some (sizedB s) := by
  unfold leb_sized.f sizedB
  by_cases h1 : s = 1
  · simp [h1]
  · by_cases h2 : s = 2
    · simp [h2]
    · by_cases h4 : s = 4
      · simp [h4]
      · simp [h1, h2, h4]
theorem sizedB_cases {s : Int} (h : sizedB s = true) : s = 1 ∨ s = 2 ∨ s = 4 ∨ s = 8 := by
  unfold sizedB at h
  simp at h
  omega
/-- what leb.Put answers -/
def putV (n s : Int) : List Int × Int :=
  if sizedB s = true then (if s < 8 ∧ (n < -2 ^ (8 * s.toNat - 1) ∨ 2 ^ (8 * s.toNat) ≤ n) then ([], 11) else (leB (n % 18446744073709551616) s.toNat, 0)) else ([], 1)
theorem put_f (n s : Int) (k : Nat) (hk : 9 ≤ k) : leb_Put.f k n s = some (putV n s) := by
  unfold leb_Put.f putV
  rw [sized_f, Option.bind_some]
  by_cases hs : sizedB s = true
  · rw [if_pos hs, if_pos hs, wrap_u64]
    rcases sizedB_cases hs with rfl | rfl | rfl | rfl
    · rw [show leb_low_uint64.f k (n % 18446744073709551616) 1 = _ from low_f _ 1 (by omega) k hk]
      have e1 : shl .i64 (-1) (wrap64 (wrap64 (8 * 1) - 1)) = -128 := by decide +kernel
      have e2 : shl .i64 1 (wrap64 (8 * 1)) = 256 := by decide +kernel
      rw [e1, e2, if_pos (show (1 : Int) < 8 by omega), if_pos (show 0 ≤ wrap64 (wrap64 (8 * 1) - 1) by decide +kernel), if_pos (show 0 ≤ wrap64 (8 * 1) by decide +kernel)]
      simp only [Option.bind_some]
      by_cases c1 : n < -128
      · rw [if_pos c1, if_pos (by simp; omega)]
      · rw [if_neg c1]
        by_cases c2 : n ≥ 256
        · rw [if_pos c2, if_pos (by simp; omega)]
        · rw [if_neg c2, if_neg (by simp; omega)]; rfl
    · rw [show leb_low_uint64.f k (n % 18446744073709551616) 2 = _ from low_f _ 2 (by omega) k hk]
      have e1 : shl .i64 (-1) (wrap64 (wrap64 (8 * 2) - 1)) = -32768 := by decide +kernel
      have e2 : shl .i64 1 (wrap64 (8 * 2)) = 65536 := by decide +kernel
      rw [e1, e2, if_pos (show (2 : Int) < 8 by omega), if_pos (show 0 ≤ wrap64 (wrap64 (8 * 2) - 1) by decide +kernel), if_pos (show 0 ≤ wrap64 (8 * 2) by decide +kernel)]
      simp only [Option.bind_some]
      by_cases c1 : n < -32768
      · rw [if_pos c1, if_pos (by simp; omega)]
      · rw [if_neg c1]
        by_cases c2 : n ≥ 65536
        · rw [if_pos c2, if_pos (by simp; omega)]
        · rw [if_neg c2, if_neg (by simp; omega)]; rfl
    · rw [show leb_low_uint64.f k (n % 18446744073709551616) 4 = _ from low_f _ 4 (by omega) k hk]
      have e1 : shl .i64 (-1) (wrap64 (wrap64 (8 * 4) - 1)) = -2147483648 := by decide +kernel
      have e2 : shl .i64 1 (wrap64 (8 * 4)) = 4294967296 := by decide +kernel
      rw [e1, e2, if_pos (show (4 : Int) < 8 by omega), if_pos (show 0 ≤ wrap64 (wrap64 (8 * 4) - 1) by decide +kernel), if_pos (show 0 ≤ wrap64 (8 * 4) by decide +kernel)]
      simp only [Option.bind_some]
      by_cases c1 : n < -2147483648
      · rw [if_pos c1, if_pos (by simp; omega)]
      · rw [if_neg c1]
        by_cases c2 : n ≥ 4294967296
        · rw [if_pos c2, if_pos (by simp; omega)]
        · rw [if_neg c2, if_neg (by simp; omega)]; rfl
    · rw [show leb_low_uint64.f k (n % 18446744073709551616) 8 = _ from low_f _ 8 (by omega) k hk, if_neg (show ¬ (8 : Int) < 8 by omega), if_neg (by simp)]
      rfl
  · rw [if_neg hs, if_neg hs]
/-- a number of so many bytes, with its sign -/
def sgnV (u : Int) (s : Int) (sg : Bool) : Int :=
  if sg = true then (if 2 ^ (8 * s.toNat - 1) ≤ u then u - 2 ^ (8 * s.toNat) else u) else wrap64 u
theorem get_l0 (l : List Int) (a : Int) (s : Nat) (sg : Bool) (hl : ∀ b ∈ l, 0 ≤ b ∧ b ≤ 255) (hs : s ≤ 8) (ha : 0 ≤ a) (hal : a + s ≤ l.length) (hm : l.length ≤ 9223372036854775807) (d : Nat) :
    ∀ (k i : Nat) (u : Int), i ≤ s → s - i = d → d < k → 0 ≤ u → u < 256 ^ i →
      leb_Get.l0 k l a s sg u s i = leb_Get.l0 (k - d) l a s sg (u + 256 ^ i * leN ((l.drop (a.toNat + i)).take (s - i))) s s := by
  induction d with
  | zero =>
    intro k i u hi hd hk hu0 hu
    rw [show i = s from by omega]
    simp [leN]
  | succ d ih =>
    intro k i u hi hd hk hu0 hu
    obtain ⟨k, rfl⟩ : ∃ m, k = m + 1 := ⟨k - 1, by omega⟩
    have hil : a.toNat + i < l.length := by omega
    have hb := hl _ (List.getElem_mem hil)
    have hrd : rd l (wrap64 (a + (i : Int))) = l[a.toNat + i] := by
      rw [wrap64_id (by omega) (by omega)]
      simp [rd, List.getD, show (a + (i : Int)).toNat = a.toNat + i from by omega, hil]
    have hpos := pow256_pos i
    have hp8 : (256 : Int) ^ i * 256 ≤ 18446744073709551616 := by
      have h2 : ((256 ^ (i + 1) : Nat) : Int) ≤ ((256 ^ 8 : Nat) : Int) := Int.ofNat_le.mpr (Nat.pow_le_pow_right (n := 256) (by decide) (show i + 1 ≤ 8 by omega))
      rw [Int.natCast_pow, Int.natCast_pow, Int.pow_succ] at h2
      exact h2
    have hmul0 : 0 ≤ l[a.toNat + i] * 256 ^ i := Int.mul_nonneg hb.1 (by omega)
    have hmul : l[a.toNat + i] * 256 ^ i ≤ 255 * 256 ^ i := Int.mul_le_mul_of_nonneg_right hb.2 (by omega)
    have hshl : shl .u64 (IntKind.u64.wrap (l[a.toNat + i])) (wrap64 (8 * (i : Int))) = l[a.toNat + i] * 256 ^ i := by
      unfold shl
      rw [wrap64_id (by omega) (by omega), wrap_u64, wrap_u64, show (8 * (i : Int)).toNat = 8 * i from by omega, Nat.min_eq_left (by simp [IntKind.bits]; omega), show (2 : Int) ^ (8 * i) = 256 ^ i from by rw [Int.pow_mul]; rfl,
        Int.emod_eq_of_lt hb.1 (by omega), Int.emod_eq_of_lt hmul0 (by omega)]
    have hor : Go.bits .or .u64 u (l[a.toNat + i] * 256 ^ i) = u + l[a.toNat + i] * 256 ^ i := by
      refine u64_join u _ (8 * i) hu0 ?_ hmul0 ?_ (by omega) (by omega)
      · rw [show (2 : Int) ^ (8 * i) = 256 ^ i from by rw [Int.pow_mul]; rfl]; exact hu
      · rw [show (2 : Int) ^ (8 * i) = 256 ^ i from by rw [Int.pow_mul]; rfl]; exact Int.mul_emod_left _ _
    have step : leb_Get.l0 (k + 1) l a s sg u s i = leb_Get.l0 k l a s sg (u + l[a.toNat + i] * 256 ^ i) s ((i + 1 : Nat) : Int) := by
      rw [leb_Get.l0]
      rw [if_pos (show (i : Int) < s by omega), hrd, hshl, hor, wrap64_id (n := a + (i : Int)) (by omega) (by omega), if_pos (show 0 ≤ a + (i : Int) by omega), if_pos (show a + (i : Int) < l.length by omega), wrap64_id (n := 8 * (i : Int)) (by omega) (by omega), if_pos (show 0 ≤ 8 * (i : Int) by omega), wrap64_id (n := (i : Int) + 1) (by omega) (by omega)]
      rfl
    rw [step, ih k (i + 1) _ (by omega) (by omega) (by omega) (by omega) (by rw [pow256]; omega), show k + 1 - (d + 1) = k - d from by omega]
    have e : ((l.drop (a.toNat + i)).take (s - i)) = l[a.toNat + i] :: ((l.drop (a.toNat + (i + 1))).take (s - (i + 1))) := by
      rw [List.drop_eq_getElem_cons hil, show s - i = (s - (i + 1)) + 1 from by omega, List.take_succ_cons]
      rfl
    rw [e]
    simp only [leN]
    congr 1
    rw [pow256, Int.mul_add, Int.mul_comm (l[a.toNat + i])]
    have : (256 : Int) ^ i * (256 * leN ((l.drop (a.toNat + (i + 1))).take (s - (i + 1)))) = 256 * 256 ^ i * leN ((l.drop (a.toNat + (i + 1))).take (s - (i + 1))) := by
      rw [Int.mul_comm 256 (256 ^ i), Int.mul_assoc]
    omega
theorem get_end (l : List Int) (a : Int) (s : Nat) (sg : Bool) (hs : s = 1 ∨ s = 2 ∨ s = 4 ∨ s = 8) (u : Int) (h0 : 0 ≤ u) (h1 : u < 256 ^ s) (k : Nat) : leb_Get.l0 (k + 1) l a s sg u s s = some (sgnV u s sg, 0) := by
  rw [leb_Get.l0]
  rw [if_neg (by omega)]
  unfold sgnV
  cases sg with
  | false => simp
  | true =>
    rw [if_pos rfl, if_pos rfl]
    rcases hs with rfl | rfl | rfl | rfl
    · have h1' : u < 256 := by simpa using h1
      rw [if_pos (show 0 ≤ wrap64 (64 - wrap64 (8 * ((1 : Nat) : Int))) by decide +kernel), show wrap64 (64 - wrap64 (8 * ((1 : Nat) : Int))) = 56 from by decide +kernel]
      unfold shl shr
      rw [wrap_u64, wrap64_eq, show min (56 : Int).toNat IntKind.u64.bits = 56 from by decide +kernel, show min (56 : Int).toNat IntKind.i64.bits = 56 from by decide +kernel]
      simp
      split <;> omega
    · have h1' : u < 65536 := by simpa using h1
      rw [if_pos (show 0 ≤ wrap64 (64 - wrap64 (8 * ((2 : Nat) : Int))) by decide +kernel), show wrap64 (64 - wrap64 (8 * ((2 : Nat) : Int))) = 48 from by decide +kernel]
      unfold shl shr
      rw [wrap_u64, wrap64_eq, show min (48 : Int).toNat IntKind.u64.bits = 48 from by decide +kernel, show min (48 : Int).toNat IntKind.i64.bits = 48 from by decide +kernel]
      simp
      split <;> omega
    · have h1' : u < 4294967296 := by simpa using h1
      rw [if_pos (show 0 ≤ wrap64 (64 - wrap64 (8 * ((4 : Nat) : Int))) by decide +kernel), show wrap64 (64 - wrap64 (8 * ((4 : Nat) : Int))) = 32 from by decide +kernel]
      unfold shl shr
      rw [wrap_u64, wrap64_eq, show min (32 : Int).toNat IntKind.u64.bits = 32 from by decide +kernel, show min (32 : Int).toNat IntKind.i64.bits = 32 from by decide +kernel]
      simp
      split <;> omega
    · have h1' : u < 18446744073709551616 := by simpa using h1
      rw [if_pos (show 0 ≤ wrap64 (64 - wrap64 (8 * ((8 : Nat) : Int))) by decide +kernel), show wrap64 (64 - wrap64 (8 * ((8 : Nat) : Int))) = 0 from by decide +kernel]
      unfold shl shr
      rw [wrap_u64, wrap64_eq, show min (0 : Int).toNat IntKind.u64.bits = 0 from by decide +kernel, show min (0 : Int).toNat IntKind.i64.bits = 0 from by decide +kernel]
      simp
      split <;> omega
/-- what leb.Get answers -/
def getV (l : List Int) (a s : Int) (sg : Bool) : Int × Int :=
  if sizedB s = true then (if a < 0 ∨ l.length - s < a then (0, 20) else (sgnV (leN ((l.drop a.toNat).take s.toNat)) s sg, 0)) else (0, 1)
theorem get_f (l : List Int) (a s : Int) (sg : Bool) (hl : ∀ b ∈ l, 0 ≤ b ∧ b ≤ 255) (hm : l.length ≤ 9223372036854775807) (k : Nat) (hk : 10 ≤ k) : leb_Get.f k l a s sg = some (getV l a s sg) := by
  unfold leb_Get.f getV
  rw [sized_f, Option.bind_some]
  by_cases hs : sizedB s = true
  · rw [if_pos hs, if_pos hs]
    have hs' := sizedB_cases hs
    rw [wrap64_id (by omega) (by omega)]
    by_cases c1 : a < 0
    · rw [if_pos c1, if_pos (.inl c1)]
    · rw [if_neg c1]
      by_cases c2 : a > l.length - s
      · rw [if_pos c2, if_pos (.inr c2)]
      · rw [if_neg c2, if_neg (by omega)]
        obtain ⟨m, rfl⟩ := Int.eq_ofNat_of_zero_le (show 0 ≤ s by omega)
        have := get_l0 l a m sg hl (by omega) (by omega) (by omega) hm m k 0 0 (by omega) (by omega) (by omega) (by omega) (by simp)
        simp only [Int.pow_zero, Int.one_mul, Int.zero_add, Nat.add_zero, Nat.sub_zero, Int.toNat_natCast] at this ⊢
        have hr := leN_range ((l.drop a.toNat).take m) (fun b hb => hl b (List.mem_of_mem_drop (List.mem_of_mem_take hb)))
        have hlen : ((l.drop a.toNat).take m).length = m := by rw [List.length_take, List.length_drop]; omega
        rw [hlen] at hr
        obtain ⟨j, hj⟩ : ∃ j, k - m = j + 1 := ⟨k - m - 1, by omega⟩
        rw [show ((0 : Int)) = ((0 : Nat) : Int) from rfl]
        rw [show (((0 : Nat) : Int)) = (0 : Int) from rfl] at *
        refine Eq.trans this ?_
        rw [hj]
        exact get_end l a m sg (by omega) _ hr.1 hr.2 j
  · rw [if_neg hs, if_neg hs]
/-- the groups' bits as a number -/
def gN : List Int → Int
  | [] => 0
  | x :: xs => x % 128 + 128 * gN xs
theorem pow128 (i : Nat) : (128 : Int) ^ (i + 1) = 128 * 128 ^ i := by rw [Int.pow_succ, Int.mul_comm]
theorem pow128_pos (i : Nat) : (0 : Int) < 128 ^ i := Int.pow_pos (by decide)
theorem pow128_mono {i j : Nat} (h : i ≤ j) : (128 : Int) ^ i ≤ 128 ^ j := by
  have h2 : ((128 ^ i : Nat) : Int) ≤ ((128 ^ j : Nat) : Int) := Int.ofNat_le.mpr (Nat.pow_le_pow_right (n := 128) (by decide) h)
  rw [Int.natCast_pow, Int.natCast_pow] at h2
  exact h2
theorem two7 (i : Nat) : (2 : Int) ^ (7 * i) = 128 ^ i := by rw [Int.pow_mul]; rfl
theorem lebJn_eq (g : List Int) (hg : ∀ b ∈ g, 0 ≤ b ∧ b ≤ 255) : ∀ (i : Nat) (u : Int), i + g.length ≤ 10 → 0 ≤ u → u < 128 ^ i → u < 18446744073709551616 → lebJn g i u = (u + 128 ^ i * gN g) % 18446744073709551616 := by
  induction g with
  | nil =>
    intro i u _ h0 h1 h2
    simp only [lebJn, gN]
    omega
  | cons x xs ih =>
    intro i u hi h0 h1 h2
    have hx := hg x (by simp)
    simp only [List.length_cons] at hi
    have hp := pow128_pos i
    have hp9 : (128 : Int) ^ i ≤ 9223372036854775808 := by
      have := pow128_mono (show i ≤ 9 by omega)
      exact this
    have hdvd : (128 : Int) ^ i ∣ 18446744073709551616 := by
      have h : (18446744073709551616 : Int) = 2 ^ (7 * i) * 2 ^ (64 - 7 * i) := by
        rw [← Int.pow_add, show 7 * i + (64 - 7 * i) = 64 from by omega]
        rfl
      rw [h, two7]
      exact Int.dvd_mul_right _ _
    have hv : shl .u64 (IntKind.u64.wrap (Go.bits .and .u8 x 127)) (7 * (i : Int)) = (x % 128 * 128 ^ i) % 18446744073709551616 := by
      unfold shl
      rw [b_and127' x hx.1 (by omega), wrap_u64, wrap_u64, show (7 * (i : Int)).toNat = 7 * i from by omega, Nat.min_eq_left (by simp [IntKind.bits]; omega), two7, show x % 128 % 18446744073709551616 = x % 128 from by omega]
    have hv0 : 0 ≤ (x % 128 * 128 ^ i) % 18446744073709551616 := by omega
    have hv1 : (x % 128 * 128 ^ i) % 18446744073709551616 < 18446744073709551616 := by omega
    have hv2 : ((x % 128 * 128 ^ i) % 18446744073709551616) % 128 ^ i = 0 := by
      rw [Int.emod_emod_of_dvd _ hdvd]
      exact Int.mul_emod_left _ _
    have hle : (x % 128 * 128 ^ i) % 18446744073709551616 ≤ x % 128 * 128 ^ i := by
      have hm : 0 ≤ x % 128 * 128 ^ i := Int.mul_nonneg (by omega) (by omega)
      omega
    have hmx : x % 128 * 128 ^ i ≤ 127 * 128 ^ i := Int.mul_le_mul_of_nonneg_right (by omega) (by omega)
    have hor : Go.bits .or .u64 u ((x % 128 * 128 ^ i) % 18446744073709551616) = u + (x % 128 * 128 ^ i) % 18446744073709551616 := by
      refine u64_join u _ (7 * i) h0 ?_ hv0 ?_ hv1 h2
      · rw [two7]; exact h1
      · rw [two7]; exact hv2
    have hsum : u + (x % 128 * 128 ^ i) % 18446744073709551616 < 18446744073709551616 := by
      obtain ⟨q, hq⟩ := Int.dvd_of_emod_eq_zero hv2
      obtain ⟨r, hr⟩ := hdvd
      have h3 : 128 ^ i * q < 128 ^ i * r := by rw [← hq, ← hr]; exact hv1
      have h4 : q < r := Int.lt_of_mul_lt_mul_left h3 (by omega)
      have h5 : 128 ^ i * (q + 1) ≤ 128 ^ i * r := Int.mul_le_mul_of_nonneg_left (by omega) (by omega)
      rw [Int.mul_add, Int.mul_one, ← hq, ← hr] at h5
      omega
    simp only [lebJn]
    rw [hv, hor, ih (fun b hb => hg b (by simp [hb])) (i + 1) _ (by omega) (by omega) (by rw [pow128]; omega) hsum]
    simp only [gN]
    rw [pow128, Int.mul_add, Int.mul_comm (128 ^ i) (x % 128)]
    have e : (128 : Int) ^ i * (128 * gN xs) = 128 * 128 ^ i * gN xs := by rw [Int.mul_comm 128 (128 ^ i), Int.mul_assoc]
    rw [e]
    generalize (128 : Int) * 128 ^ i * gN xs = y
    generalize x % 128 * 128 ^ i = z
    omega
theorem lebJn_val (g : List Int) (hg : ∀ b ∈ g, 0 ≤ b ∧ b ≤ 255) (hl : g.length ≤ 10) : lebJn g 0 0 = gN g % 18446744073709551616 := by
  have := lebJn_eq g hg 0 0 (by omega) (by omega) (by simp) (by omega)
  simpa using this
theorem ulebL_range (u : Nat) : ∀ b ∈ ulebL u, 0 ≤ b ∧ b ≤ 255 := by
  induction u using Nat.strongRecOn with
  | _ u ih =>
    intro b hb
    by_cases h : 127 < u
    · rw [ulebL_big h] at hb
      rcases List.mem_cons.1 hb with rfl | hb
      · omega
      · exact ih (u / 128) (by omega) b hb
    · rw [ulebL_small h] at hb
      simp at hb
      omega
theorem ulebL_gN (u : Nat) : gN (ulebL u) = u := by
  induction u using Nat.strongRecOn with
  | _ u ih =>
    by_cases h : 127 < u
    · rw [ulebL_big h]
      simp only [gN]
      rw [ih (u / 128) (by omega)]
      omega
    · rw [ulebL_small h]
      simp only [gN]
      omega
theorem ulebL_pos (u : Nat) : 0 < (ulebL u).length := by
  by_cases h : 127 < u
  · rw [ulebL_big h]; simp
  · rw [ulebL_small h]; simp
theorem ulebL_le (d : Nat) : ∀ u : Nat, u < 128 ^ (d + 1) → (ulebL u).length ≤ d + 1 := by
  induction d with
  | zero =>
    intro u h
    rw [ulebL_small (by simp at h; omega)]
    simp
  | succ d ih =>
    intro u h
    by_cases c : 127 < u
    · rw [ulebL_big c]
      have := ih (u / 128) (by rw [Nat.pow_succ] at h; omega)
      simp
      omega
    · rw [ulebL_small c]
      simp
/-- the groups but the last are marked, the last is not -/
theorem ulebL_grp (u : Nat) : ∀ (behind : List Int) (j : Nat), j + (ulebL u).length ≤ 10 → lebGrp (ulebL u ++ behind) j = .inl (j + (ulebL u).length) := by
  induction u using Nat.strongRecOn with
  | _ u ih =>
    intro behind j hj
    by_cases h : 127 < u
    · rw [ulebL_big h] at hj ⊢
      simp only [List.length_cons, List.cons_append, lebGrp] at hj ⊢
      have hp := ulebL_pos (u / 128)
      rw [if_neg (by omega), if_neg (by omega), ih (u / 128) (by omega) behind (j + 1) (by omega)]
      congr 1
      omega
    · rw [ulebL_small h] at hj ⊢
      simp only [List.length_singleton, List.singleton_append, lebGrp] at hj ⊢
      rw [if_neg (by omega), if_pos (by omega)]
theorem slebL_range (m : Nat) : ∀ n : Int, n.natAbs = m → ∀ b ∈ slebL n, 0 ≤ b ∧ b ≤ 255 := by
  induction m using Nat.strongRecOn with
  | _ m ih =>
    intro n hn b hb
    by_cases h : n < -64 ∨ 63 < n
    · rw [slebL_big h] at hb
      rcases List.mem_cons.1 hb with rfl | hb
      · omega
      · exact ih (n / 128).natAbs (by omega) _ rfl b hb
    · rw [slebL_small h] at hb
      simp at hb
      omega
theorem slebL_pos (n : Int) : 0 < (slebL n).length := by
  by_cases h : n < -64 ∨ 63 < n
  · rw [slebL_big h]; simp
  · rw [slebL_small h]; simp
theorem emod_step (n q : Int) (hq : 0 < q) : n % 128 + 128 * ((n / 128) % q) = n % (128 * q) := by
  have h1 := Int.emod_add_mul_ediv n 128
  have h2 := Int.emod_add_mul_ediv (n / 128) q
  have h3 : (0 : Int) ≤ (n / 128) % q := Int.emod_nonneg _ (by omega)
  have h4 : (n / 128) % q < q := Int.emod_lt_of_pos _ hq
  have h5 : n = (n % 128 + 128 * ((n / 128) % q)) + (128 * q) * ((n / 128) / q) := by
    rw [Int.mul_assoc]
    generalize q * (n / 128 / q) = y at *
    omega
  have h6 : 0 ≤ n % 128 + 128 * ((n / 128) % q) ∧ n % 128 + 128 * ((n / 128) % q) < 128 * q := by omega
  generalize n % 128 + 128 * ((n / 128) % q) = z at *
  rw [h5, Int.add_mul_emod_self_left, Int.emod_eq_of_lt h6.1 h6.2]
theorem slebL_gN (m : Nat) : ∀ n : Int, n.natAbs = m → gN (slebL n) = n % 128 ^ (slebL n).length := by
  induction m using Nat.strongRecOn with
  | _ m ih =>
    intro n hn
    by_cases h : n < -64 ∨ 63 < n
    · rw [slebL_big h]
      simp only [gN, List.length_cons, pow128]
      rw [ih (n / 128).natAbs (by omega) _ rfl, ← emod_step n _ (pow128_pos _)]
      omega
    · rw [slebL_small h]
      simp [gN]
theorem slebL_le (d : Nat) : ∀ n : Int, -(64 * 128 ^ d : Int) ≤ n → n < 64 * 128 ^ d → (slebL n).length ≤ d + 1 := by
  induction d with
  | zero =>
    intro n h0 h1
    rw [slebL_small (by simp at h0 h1; omega)]
    simp
  | succ d ih =>
    intro n h0 h1
    by_cases c : n < -64 ∨ 63 < n
    · rw [slebL_big c]
      rw [pow128] at h0 h1
      have := ih (n / 128) (by omega) (by omega)
      simp
      omega
    · rw [slebL_small c]
      simp
theorem slebL_ge (m : Nat) : ∀ n : Int, n.natAbs = m → -(64 * 128 ^ ((slebL n).length - 1) : Int) ≤ n ∧ n < 64 * 128 ^ ((slebL n).length - 1) := by
  induction m using Nat.strongRecOn with
  | _ m ih =>
    intro n hn
    by_cases h : n < -64 ∨ 63 < n
    · rw [slebL_big h]
      have hp := slebL_pos (n / 128)
      have := ih (n / 128).natAbs (by omega) _ rfl
      obtain ⟨q, hq⟩ : ∃ q, (slebL (n / 128)).length = q + 1 := ⟨(slebL (n / 128)).length - 1, by omega⟩
      simp only [List.length_cons, Nat.add_sub_cancel]
      rw [hq] at this ⊢
      rw [Nat.add_sub_cancel] at this
      rw [pow128]
      omega
    · rw [slebL_small h]
      simp
      omega
theorem slebL_grp (m : Nat) : ∀ n : Int, n.natAbs = m → ∀ (behind : List Int) (j : Nat), j + (slebL n).length ≤ 10 → lebGrp (slebL n ++ behind) j = .inl (j + (slebL n).length) := by
  induction m using Nat.strongRecOn with
  | _ m ih =>
    intro n hn behind j hj
    by_cases h : n < -64 ∨ 63 < n
    · rw [slebL_big h] at hj ⊢
      simp only [List.length_cons, List.cons_append, lebGrp] at hj ⊢
      have hp := slebL_pos (n / 128)
      rw [if_neg (by omega), if_neg (by omega), ih (n / 128).natAbs (by omega) _ rfl behind (j + 1) (by omega)]
      congr 1
      omega
    · rw [slebL_small h] at hj ⊢
      simp only [List.length_singleton, List.singleton_append, lebGrp] at hj ⊢
      rw [if_neg (by omega), if_pos (by omega)]
theorem ulebL_last (u : Nat) : rd (ulebL u) (((ulebL u).length - 1 : Nat) : Int) = ((u / 128 ^ ((ulebL u).length - 1) : Nat) : Int) := by
  induction u using Nat.strongRecOn with
  | _ u ih =>
    by_cases h : 127 < u
    · have hp := ulebL_pos (u / 128)
      have := ih (u / 128) (by omega)
      obtain ⟨q, hq⟩ : ∃ q, (ulebL (u / 128)).length = q + 1 := ⟨(ulebL (u / 128)).length - 1, by omega⟩
      rw [ulebL_big h]
      simp only [List.length_cons, Nat.add_sub_cancel]
      rw [hq] at this ⊢
      rw [Nat.add_sub_cancel] at this
      have e : rd (((u % 128 + 128 : Nat) : Int) :: ulebL (u / 128)) ((q + 1 : Nat) : Int) = rd (ulebL (u / 128)) (q : Int) := by simp [rd]
      rw [e, this, Nat.pow_succ, Nat.div_div_eq_div_mul, Nat.mul_comm 128]
    · rw [ulebL_small h]
      simp [rd]
theorem slebL_last (m : Nat) : ∀ n : Int, n.natAbs = m → rd (slebL n) (((slebL n).length - 1 : Nat) : Int) = n / 128 ^ ((slebL n).length - 1) % 128 := by
  induction m using Nat.strongRecOn with
  | _ m ih =>
    intro n hn
    by_cases h : n < -64 ∨ 63 < n
    · have hp := slebL_pos (n / 128)
      have := ih (n / 128).natAbs (by omega) _ rfl
      obtain ⟨q, hq⟩ : ∃ q, (slebL (n / 128)).length = q + 1 := ⟨(slebL (n / 128)).length - 1, by omega⟩
      rw [slebL_big h]
      simp only [List.length_cons, Nat.add_sub_cancel]
      rw [hq] at this ⊢
      rw [Nat.add_sub_cancel] at this
      have e : rd ((n % 128 + 128) :: slebL (n / 128)) ((q + 1 : Nat) : Int) = rd (slebL (n / 128)) (q : Int) := by simp [rd]
      rw [e, this, pow128, Int.ediv_ediv_of_nonneg (by omega)]
    · rw [slebL_small h]
      simp [rd]
theorem lebCut_drop (l : List Int) (a : Nat) (n : Nat) : lebCut l (a : Int) n = (l.drop a).take n := by
  unfold lebCut
  rw [Int.toNat_natCast, List.drop_take]
  congr 1
  omega
theorem lebAt_nat {l : List Int} {a : Nat} (h : a < l.length) : lebAt l (a : Int) = lebGrp (l.drop a) 0 := by
  unfold lebAt
  rw [if_neg (by omega), Int.toNat_natCast]
/-- a list's groups, with anything ahead and behind -/
theorem lebAt_mid {ahead g behind : List Int} {n : Nat} (hg : 0 < g.length) (h : lebGrp (g ++ behind) 0 = .inl n) : lebAt (ahead ++ g ++ behind) (ahead.length : Int) = .inl n := by
  rw [lebAt_nat (by simp; omega), List.append_assoc, List.drop_left]
  exact h
theorem lebCut_mid (ahead g behind : List Int) : lebCut (ahead ++ g ++ behind) (ahead.length : Int) g.length = g := by
  rw [lebCut_drop, List.append_assoc, List.drop_left, List.take_left]
theorem sx_eq (w : Int) (n : Nat) (hn : 0 < n) (hn9 : n ≤ 9) (h0 : 0 ≤ w) (h1 : w < 128 ^ n) : lebSx w n = if 64 * 128 ^ (n - 1) ≤ w then w - 128 ^ n else w := by
  obtain ⟨m, rfl⟩ : ∃ m, n = m + 1 := ⟨n - 1, by omega⟩
  have hp := pow128_pos m
  have hp8 : (128 : Int) ^ m ≤ 72057594037927936 := by
    have := pow128_mono (show m ≤ 8 by omega)
    exact this
  rw [pow128] at h1
  have hpow : (2 : Int) ^ (7 * (m + 1) - 1) = 64 * 128 ^ m := by
    rw [show 7 * (m + 1) - 1 = 6 + 7 * m from by omega, Int.pow_add, two7]
    rfl
  have hshr : shr .u64 w (7 * ((m + 1 : Nat) : Int) - 1) = w / (64 * 128 ^ m) := by
    unfold shr
    rw [show (7 * ((m + 1 : Nat) : Int) - 1).toNat = 7 * (m + 1) - 1 from by omega, Nat.min_eq_left (by simp [IntKind.bits]; omega), hpow]
  have hshl : shl .u64 18446744073709551615 (7 * ((m + 1 : Nat) : Int)) = 18446744073709551616 - 128 * 128 ^ m := by
    unfold shl
    rw [wrap_u64, show (7 * ((m + 1 : Nat) : Int)).toNat = 7 * (m + 1) from by omega, Nat.min_eq_left (by simp [IntKind.bits]; omega), two7, pow128]
    omega
  unfold lebSx
  rw [hshr, hshl, Nat.add_sub_cancel, pow128]
  by_cases c : 64 * 128 ^ m ≤ w
  · have hd : w / (64 * 128 ^ m) = 1 := by
      have l1 : w / (64 * 128 ^ m) < 2 := Int.ediv_lt_of_lt_mul (by omega) (by omega)
      have l2 : 1 ≤ w / (64 * 128 ^ m) := Int.le_ediv_of_mul_le (by omega) (by omega)
      omega
    rw [hd, if_pos c, if_pos ⟨by omega, by decide +kernel⟩]
    have hor : Go.bits .or .u64 w (18446744073709551616 - 128 * 128 ^ m) = w + (18446744073709551616 - 128 * 128 ^ m) := by
      refine u64_join w _ (7 * (m + 1)) h0 ?_ (by omega) ?_ (by omega) (by omega)
      · rw [two7, pow128]; exact h1
      · rw [two7]
        refine Int.emod_eq_zero_of_dvd ?_
        refine Int.dvd_sub ?_ (by rw [pow128]; exact Int.dvd_refl _)
        have h : (18446744073709551616 : Int) = 2 ^ (7 * (m + 1)) * 2 ^ (64 - 7 * (m + 1)) := by
          rw [← Int.pow_add, show 7 * (m + 1) + (64 - 7 * (m + 1)) = 64 from by omega]
          rfl
        rw [h, two7]
        exact Int.dvd_mul_right _ _
    rw [hor, wrap64_eq]
    omega
  · have hd : w / (64 * 128 ^ m) = 0 := Int.ediv_eq_zero_of_lt h0 (by omega)
    rw [hd, if_neg c, if_neg (fun h => absurd h.2 (by decide +kernel)), wrap64_id (by omega) (by omega)]
theorem readU_back (a : Int) (h0 : -9223372036854775808 ≤ a) (h1 : a ≤ 9223372036854775807) (ahead behind : List Int) :
    leb_ReadUleb.f (ahead ++ ulebL (a % 18446744073709551616).toNat ++ behind) (ahead.length : Int) = some (a, ahead.length + ((ulebL (a % 18446744073709551616).toNat).length : Int), 0) := by
  obtain ⟨u, hu⟩ := Int.eq_ofNat_of_zero_le (show 0 ≤ a % 18446744073709551616 by omega)
  rw [hu, Int.toNat_natCast]
  have hu2 : u < 18446744073709551616 := by omega
  have hl : (ulebL u).length ≤ 10 := ulebL_le 9 u (by have : (128 : Nat) ^ (9 + 1) = 1180591620717411303424 := by decide
                                                      omega)
  have hp := ulebL_pos u
  have hat := lebAt_mid (ahead := ahead) (behind := behind) hp (ulebL_grp u behind 0 (by omega))
  rw [Nat.zero_add] at hat
  unfold leb_ReadUleb.f lebReadU
  rw [hat]
  simp only [lebCut_mid]
  have hj : lebJn (ulebL u) 0 0 = u := by
    rw [lebJn_val _ (ulebL_range u) hl, ulebL_gN]
    omega
  have hc : (ulebL u).length < 10 ∨ rd (ulebL u) 9 ≤ 1 := by
    by_cases c : (ulebL u).length < 10
    · exact .inl c
    · refine .inr ?_
      have := ulebL_last u
      rw [show (ulebL u).length - 1 = 9 from by omega, show ((9 : Nat) : Int) = 9 from rfl] at this
      rw [this]
      have : (128 : Nat) ^ 9 = 9223372036854775808 := by decide
      omega
  rw [if_pos hc, hj]
  simp only [Option.some.injEq, Prod.mk.injEq, and_true]
  rw [wrap64_eq]
  omega
theorem readS_back (a : Int) (h0 : -9223372036854775808 ≤ a) (h1 : a ≤ 9223372036854775807) (ahead behind : List Int) :
    leb_ReadSleb.f (ahead ++ slebL a ++ behind) (ahead.length : Int) = some (a, ahead.length + ((slebL a).length : Int), 0) := by
  have h9 : (128 : Int) ^ 9 = 9223372036854775808 := by decide
  have h10 : (128 : Int) ^ 10 = 1180591620717411303424 := by decide
  have hl : (slebL a).length ≤ 10 := slebL_le 9 a (by omega) (by omega)
  have hp := slebL_pos a
  have hge := slebL_ge _ a rfl
  have hat := lebAt_mid (ahead := ahead) (behind := behind) hp (slebL_grp _ a rfl behind 0 (by omega))
  rw [Nat.zero_add] at hat
  unfold leb_ReadSleb.f lebReadS
  rw [hat]
  simp only [lebCut_mid]
  have hj : lebJn (slebL a) 0 0 = a % 128 ^ (slebL a).length % 18446744073709551616 := by
    rw [lebJn_val _ (slebL_range _ a rfl) hl, slebL_gN _ a rfl]
  have hc : (slebL a).length < 10 ∨ rd (slebL a) 9 = 0 ∨ rd (slebL a) 9 = 127 := by
    by_cases c : (slebL a).length < 10
    · exact .inl c
    · refine .inr ?_
      have := slebL_last _ a rfl
      rw [show (slebL a).length - 1 = 9 from by omega, show ((9 : Nat) : Int) = 9 from rfl, h9] at this
      rw [this]
      omega
  have hs : lebSx (lebJn (slebL a) 0 0) (slebL a).length = a := by
    rw [hj]
    by_cases c : (slebL a).length ≤ 9
    · obtain ⟨m, hm⟩ : ∃ m, (slebL a).length = m + 1 := ⟨(slebL a).length - 1, by omega⟩
      rw [hm] at hge c ⊢
      rw [Nat.add_sub_cancel] at hge
      have hpm := pow128_pos m
      have hp8 : (128 : Int) ^ m ≤ 72057594037927936 := by
        have := pow128_mono (show m ≤ 8 by omega)
        exact this
      have e : a % 128 ^ (m + 1) = if a < 0 then a + 128 * 128 ^ m else a := by
        rw [pow128]
        by_cases s : a < 0
        · rw [if_pos s, ← Int.add_emod_right, Int.emod_eq_of_lt (by omega) (by omega)]
        · rw [if_neg s, Int.emod_eq_of_lt (by omega) (by omega)]
      rw [e]
      by_cases s : a < 0
      · rw [if_pos s, Int.emod_eq_of_lt (by omega) (by omega), sx_eq _ _ (by omega) (by omega) (by omega) (by rw [pow128]; omega), Nat.add_sub_cancel, if_pos (by omega), pow128]
        omega
      · rw [if_neg s, Int.emod_eq_of_lt (by omega) (by omega), sx_eq _ _ (by omega) (by omega) (by omega) (by rw [pow128]; omega), Nat.add_sub_cancel, if_neg (by omega)]
    · have e10 : (slebL a).length = 10 := by omega
      rw [e10, h10]
      unfold lebSx
      rw [if_neg (by omega), wrap64_eq]
      omega
  rw [if_pos hc, hs]
end Go.Proofs.Ytfgfnflhdabmcaa.Leb
end
section
namespace Go.Proofs.Ytfgfnflhdabmcaa.EhB
open Go.RowKit Go.Proofs.Ytfgfnflhdabmcaa.G Go.Proofs.YtfgfnflhdabmcaaW.PrintWords Go.Proofs.YtfgfnflhdabmcaaW.PrintLast Go.Proofs.YtfgfnflhdabmcaaW.PrintMore Go.Proofs.Ytfgfnflhdabmcaa.Bit Go.Proofs.Ytfgfnflhdabmcaa.Leb Go.Proofs.Ytfgfnflhdabmcaa.Cfa Go.Proofs.Ytfgfnflhdabmcaa.CfaB Go.Proofs.Ytfgfnflhdabmcaa.CfaRd
theorem uR_at (a : Int) (h0 : -9223372036854775808 ≤ a) (h1 : a ≤ 9223372036854775807) (ahead behind l : List Int) (hl : l = ahead ++ U a ++ behind) (i : Int) (hi : i = ahead.length) : uR l i = some (a, i + (U a).length) := by
  subst hl hi
  unfold uR
  have := readU_back a h0 h1 ahead behind
  rw [show U a = ulebL (a % 18446744073709551616).toNat from rfl, this]
  rfl
theorem sR_at (a : Int) (h0 : -9223372036854775808 ≤ a) (h1 : a ≤ 9223372036854775807) (ahead behind l : List Int) (hl : l = ahead ++ slebL a ++ behind) (i : Int) (hi : i = ahead.length) : sR l i = some (a, i + (slebL a).length) := by
  subst hl hi
  unfold sR
  rw [readS_back a h0 h1 ahead behind]
  rfl
theorem nR_at (s : Nat) (hs : s = 1 ∨ s = 2 ∨ s = 4) (g ahead behind l : List Int) (hg : g.length = s) (hl : l = ahead ++ g ++ behind) (hb : ∀ b ∈ l, 0 ≤ b ∧ b ≤ 255) (hn : ahead.length ≤ 2000000) (hm : l.length ≤ 9223372036854775807) (i : Int) (hi : i = ahead.length) : nR l i s = some (leN g) := by
  subst hi
  have hcut : (l.drop ahead.length).take s = g := by
    rw [hl, List.append_assoc, List.drop_left, ← hg, List.take_left]
  have hr := leN_range g (fun b hb' => hb b (by rw [hl]; simp [hb']))
  have hw : wrap64 (leN g) = leN g := by
    rw [hg] at hr
    rcases hs with rfl | rfl | rfl <;> simp at hr <;> (unfold wrap64; omega)
  have hz : sizedB (s : Int) = true := by rcases hs with rfl | rfl | rfl <;> decide
  have hlen : l.length = ahead.length + s + behind.length := by rw [hl]; simp [hg]; omega
  unfold nR
  rw [if_pos (by omega), get_f l _ _ false hb hm 12 (by omega)]
  unfold getV
  rw [if_pos hz, if_neg (by omega), Int.toNat_natCast, Int.toNat_natCast, hcut]
  unfold sgnV
  simp [hw]
theorem rd_mid (ahead rest l : List Int) (c : Int) (hl : l = ahead ++ c :: rest) : rd l (ahead.length : Int) = c := by
  subst hl
  simp [rd, List.getD]
theorem may0 {k r n : Int} (hk : k = 0 ∨ k = 9 ∨ k = 10) (h : mayF k r n = true) : r = 0 ∧ n = 0 := by
  unfold mayF at h
  rw [if_pos hk] at h
  simpa using h
theorem may13 {k r n : Int} (hk : k = 1 ∨ k = 3) (h : mayF k r n = true) : r = 0 ∧ 0 ≤ n ∧ n ≤ 2147483647 := by
  unfold mayF at h
  rw [if_neg (by omega), if_pos hk] at h
  simpa using h
theorem may2 {r n : Int} (h : mayF 2 r n = true) : 0 ≤ r ∧ r ≤ 16 ∧ 0 ≤ n ∧ n ≤ 2147483647 := by
  unfold mayF at h
  rw [if_neg (by omega), if_neg (by omega), if_pos rfl] at h
  simpa using h
theorem may4 {k r n : Int} (hk : k = 4 ∨ k = 6 ∨ k = 7 ∨ k = 8) (h : mayF k r n = true) : n = 0 ∧ 0 ≤ r ∧ r ≤ 16 := by
  unfold mayF at h
  rw [if_neg (by omega), if_neg (by omega), if_neg (by omega), if_pos hk] at h
  simpa using h
theorem may_kind {k r n : Int} (h : mayF k r n = true) : (k = 0 ∨ k = 9 ∨ k = 10) ∨ (k = 1 ∨ k = 3) ∨ k = 2 ∨ (k = 4 ∨ k = 6 ∨ k = 7 ∨ k = 8) ∨ k = 5 := by
  by_cases h1 : k = 0 ∨ k = 9 ∨ k = 10
  · exact .inl h1
  by_cases h2 : k = 1 ∨ k = 3
  · exact .inr (.inl h2)
  by_cases h3 : k = 2
  · exact .inr (.inr (.inl h3))
  by_cases h4 : k = 4 ∨ k = 6 ∨ k = 7 ∨ k = 8
  · exact .inr (.inr (.inr (.inl h4)))
  by_cases h5 : k = 5
  · exact .inr (.inr (.inr (.inr h5)))
  unfold mayF at h
  rw [if_neg h1, if_neg h2, if_neg h3, if_neg h4, if_neg h5] at h
  cases h
/-- An op's bytes are read as the op. -/
theorem read_op {k r n : Int} (h : mayF k r n = true) (ahead behind l : List Int) (hl : l = ahead ++ opB k r n ++ behind) (hb : ∀ b ∈ l, 0 ≤ b ∧ b ≤ 255) (hn : ahead.length ≤ 1000000) (hm : l.length ≤ 9223372036854775807) :
    opR l (rd l (ahead.length : Int)) ((ahead.length : Int) + 1) = some ((k, r, n), (ahead.length : Int) + (opB k r n).length) := by
  rcases may_kind h with hk | hk | hk | hk | hk
  · obtain ⟨rfl, rfl⟩ := may0 hk h
    rcases hk with rfl | rfl | rfl
    · rw [rd_mid ahead behind l 0 (by rw [hl]; simp [opB])]; simp [opR, opB]
    · rw [rd_mid ahead behind l 10 (by rw [hl]; simp [opB])]; simp [opR, opB]
    · rw [rd_mid ahead behind l 11 (by rw [hl]; simp [opB])]; simp [opR, opB]
  · obtain ⟨rfl, h0, h1⟩ := may13 hk h
    rcases hk with rfl | rfl
    · have ho : opB 1 0 n = advB n := by simp [opB]
      rw [ho] at hl ⊢
      unfold advB at hl ⊢
      by_cases c1 : n < 64
      · rw [if_pos c1] at hl ⊢
        rw [rd_mid ahead behind l ((64 + n) % 256) (by rw [hl]; simp)]
        unfold opR
        rw [if_pos (by omega), show (64 + n) % 256 - 64 = n from by omega]
        rfl
      rw [if_neg c1] at hl ⊢
      by_cases c2 : n < 256
      · rw [if_pos c2] at hl ⊢
        rw [rd_mid ahead ([n % 256] ++ behind) l 2 (by rw [hl]; simp)]
        have e := nR_at 1 (by omega) [n % 256] (ahead ++ [2]) behind l rfl (by rw [hl]; simp) hb (by simp; omega) hm ((ahead.length : Int) + 1) (by simp)
        simp only [leN] at e
        rw [show n % 256 + 256 * 0 = n from by omega] at e
        simp [opR, show nR l ((ahead.length : Int) + 1) 1 = some n from e]
        omega
      rw [if_neg c2] at hl ⊢
      by_cases c3 : n < 65536
      · rw [if_pos c3] at hl ⊢
        rw [rd_mid ahead ([n % 256, n / 256 % 256] ++ behind) l 3 (by rw [hl]; simp)]
        have e := nR_at 2 (by omega) [n % 256, n / 256 % 256] (ahead ++ [3]) behind l rfl (by rw [hl]; simp) hb (by simp; omega) hm ((ahead.length : Int) + 1) (by simp)
        simp only [leN] at e
        rw [show n % 256 + 256 * (n / 256 % 256 + 256 * 0) = n from by omega] at e
        simp [opR, show nR l ((ahead.length : Int) + 1) 2 = some n from e]
        omega
      rw [if_neg c3] at hl ⊢
      rw [rd_mid ahead ([n % 256, n / 256 % 256, n / 65536 % 256, n / 16777216 % 256] ++ behind) l 4 (by rw [hl]; simp)]
      have e := nR_at 4 (by omega) [n % 256, n / 256 % 256, n / 65536 % 256, n / 16777216 % 256] (ahead ++ [4]) behind l rfl (by rw [hl]; simp) hb (by simp; omega) hm ((ahead.length : Int) + 1) (by simp)
      simp only [leN] at e
      rw [show n % 256 + 256 * (n / 256 % 256 + 256 * (n / 65536 % 256 + 256 * (n / 16777216 % 256 + 256 * 0))) = n from by omega] at e
      simp [opR, show nR l ((ahead.length : Int) + 1) 4 = some n from e]
      omega
    · have ho : opB 3 0 n = [14] ++ U n := by simp [opB]
      rw [ho] at hl ⊢
      rw [rd_mid ahead (U n ++ behind) l 14 (by rw [hl]; simp)]
      have e := uR_at n (by omega) (by omega) (ahead ++ [14]) behind l (by rw [hl]; simp) ((ahead.length : Int) + 1) (by simp)
      simp [opR, e]
      omega
  · subst hk
    obtain ⟨h0, h1, h2, h3⟩ := may2 h
    have ho : opB 2 r n = [12] ++ U r ++ U n := by simp [opB]
    rw [ho] at hl ⊢
    rw [rd_mid ahead (U r ++ U n ++ behind) l 12 (by rw [hl]; simp)]
    have e := uR_at r (by omega) (by omega) (ahead ++ [12]) (U n ++ behind) l (by rw [hl]; simp) ((ahead.length : Int) + 1) (by simp)
    have e2 := uR_at n (by omega) (by omega) (ahead ++ [12] ++ U r) behind l (by rw [hl]; simp) ((ahead.length : Int) + 1 + (U r).length) (by simp; omega)
    simp [opR, e, e2]
    omega
  · obtain ⟨rfl, h0, h1⟩ := may4 hk h
    rcases hk with rfl | rfl | rfl | rfl
    · have ho : opB 4 r 0 = [13] ++ U r := by simp [opB]
      rw [ho] at hl ⊢
      rw [rd_mid ahead (U r ++ behind) l 13 (by rw [hl]; simp)]
      have e := uR_at r (by omega) (by omega) (ahead ++ [13]) behind l (by rw [hl]; simp) ((ahead.length : Int) + 1) (by simp)
      simp [opR, e]
      omega
    · have ho : opB 6 r 0 = [(192 + r) % 256] := by simp [opB]
      rw [ho] at hl ⊢
      rw [rd_mid ahead behind l ((192 + r) % 256) (by rw [hl]; simp)]
      unfold opR
      rw [if_neg (by omega), if_neg (by omega), if_pos (by omega), show (192 + r) % 256 - 192 = r from by omega]
      rfl
    · have ho : opB 7 r 0 = [7] ++ U r := by simp [opB]
      rw [ho] at hl ⊢
      rw [rd_mid ahead (U r ++ behind) l 7 (by rw [hl]; simp)]
      have e := uR_at r (by omega) (by omega) (ahead ++ [7]) behind l (by rw [hl]; simp) ((ahead.length : Int) + 1) (by simp)
      simp [opR, e]
      omega
    · have ho : opB 8 r 0 = [8] ++ U r := by simp [opB]
      rw [ho] at hl ⊢
      rw [rd_mid ahead (U r ++ behind) l 8 (by rw [hl]; simp)]
      have e := uR_at r (by omega) (by omega) (ahead ++ [8]) behind l (by rw [hl]; simp) ((ahead.length : Int) + 1) (by simp)
      simp [opR, e]
      omega
  · subst hk
    obtain ⟨m, rfl, h0, h1, h2, h3⟩ := may5 h
    have hd : -(8 * m / 8) = -m := by omega
    by_cases c : 8 * m ≤ 0
    · have ho : opB 5 r (8 * m) = [(128 + r) % 256] ++ U (-m) := by simp [opB, c, hd]
      rw [ho] at hl ⊢
      rw [rd_mid ahead (U (-m) ++ behind) l ((128 + r) % 256) (by rw [hl]; simp)]
      have e := uR_at (-m) (by omega) (by omega) (ahead ++ [(128 + r) % 256]) behind l (by rw [hl]; simp) ((ahead.length : Int) + 1) (by simp)
      unfold opR
      rw [if_neg (by omega), if_pos (by omega), e, Option.bind_some, if_pos (by constructor <;> (show _ ≤ _; simp only; omega))]
      simp
      omega
    · have ho : opB 5 r (8 * m) = [17] ++ U r ++ slebL (-m) := by simp [opB, c, hd]
      rw [ho] at hl ⊢
      rw [rd_mid ahead (U r ++ slebL (-m) ++ behind) l 17 (by rw [hl]; simp)]
      have e := uR_at r (by omega) (by omega) (ahead ++ [17]) (slebL (-m) ++ behind) l (by rw [hl]; simp) ((ahead.length : Int) + 1) (by simp)
      have e2 := sR_at (-m) (by omega) (by omega) (ahead ++ [17] ++ U r) behind l (by rw [hl]; simp) ((ahead.length : Int) + 1 + (U r).length) (by simp; omega)
      simp [opR, e, e2]
      omega
theorem U_range (a : Int) : ∀ b ∈ U a, 0 ≤ b ∧ b ≤ 255 := ulebL_range _
theorem opB_range {k r n : Int} (h : mayF k r n = true) : ∀ b ∈ opB k r n, 0 ≤ b ∧ b ≤ 255 := by
  intro b hb
  unfold opB at hb
  split at hb
  · unfold advB at hb
    repeat' split at hb
    all_goals simp at hb; omega
  repeat' split at hb
  all_goals simp only [List.mem_append, List.mem_singleton] at hb
  all_goals first
    | omega
    | (rcases hb with hb | hb
       · first | omega | (rcases hb with hb | hb
                          · omega
                          · exact U_range _ _ hb)
       · first | exact U_range _ _ hb | exact slebL_range _ _ rfl _ hb)
theorem opB_pos (k r n : Int) : 0 < (opB k r n).length := by
  unfold opB advB
  repeat' split
  all_goals simp
theorem out_grows (t : List (Int × Int × Int)) : ∀ acc B : List Int, outB t acc = (B, 0) → (∃ rest, B = acc ++ rest ∧ t.length ≤ rest.length) ∧ ((∀ b ∈ acc, 0 ≤ b ∧ b ≤ 255) → ∀ b ∈ B, 0 ≤ b ∧ b ≤ 255) ∧ B.length ≤ acc.length + 30 * t.length := by
  induction t with
  | nil =>
    intro acc B h
    obtain rfl := (Prod.mk.inj h).1
    exact ⟨⟨[], by simp, by simp⟩, fun h => h, by simp⟩
  | cons x t ih =>
    obtain ⟨k, r, n⟩ := x
    intro acc B h
    unfold outB at h
    by_cases c : mayF k r n = true
    · rw [if_pos c] at h
      obtain ⟨⟨rest, hr, hl⟩, h2, h3⟩ := ih _ _ h
      have h30 := opB_le c
      have hp := opB_pos k r n
      rw [List.length_append] at h3
      refine ⟨⟨opB k r n ++ rest, by rw [hr]; simp, by simp; omega⟩, fun h' => h2 (fun b hb => ?_), by simp; omega⟩
      rcases List.mem_append.1 hb with hb | hb
      · exact h' b hb
      · exact opB_range c b hb
    · rw [if_neg c] at h
      have := (Prod.mk.inj h).2
      omega
theorem readR_out (B : List Int) (hB : ∀ b ∈ B, 0 ≤ b ∧ b ≤ 255) (hBl : B.length ≤ 1000000) (t : List S105) : ∀ (ahead : List Int) (acc : List S105) (kk : Nat), outB (opl t) ahead = (B, 0) → acc.length + t.length ≤ 4000 → t.length < kk → readR B kk (ahead.length : Int) acc = some (acc ++ t) := by
  induction t with
  | nil =>
    intro ahead acc kk h hl hk
    obtain ⟨kk, rfl⟩ : ∃ m, kk = m + 1 := ⟨kk - 1, by omega⟩
    obtain rfl := (Prod.mk.inj h).1
    rw [readR, if_neg (by omega)]
    simp
  | cons x t ih =>
    intro ahead acc kk h hl hk
    obtain ⟨kk, rfl⟩ : ∃ m, kk = m + 1 := ⟨kk - 1, by omega⟩
    have h2 : (if mayF x.f0 x.f1 x.f2 = true then outB (opl t) (ahead ++ opB x.f0 x.f1 x.f2) else ([], 130)) = (B, 0) := h
    by_cases c : mayF x.f0 x.f1 x.f2 = true
    · rw [if_pos c] at h2
      obtain ⟨⟨rest, hr, -⟩, -, -⟩ := out_grows _ _ _ h2
      have hp := opB_pos x.f0 x.f1 x.f2
      have hlen : B.length = ahead.length + (opB x.f0 x.f1 x.f2).length + rest.length := by rw [hr]; simp; omega
      simp only [List.length_cons] at hl hk
      rw [readR, if_pos (by omega), if_pos (by omega), read_op c ahead rest B hr hB (by omega) (by omega), Option.bind_some]
      have e := ih (ahead ++ opB x.f0 x.f1 x.f2) (acc ++ [x]) kk h2 (by simp; omega) (by omega)
      rw [List.length_append] at e
      simp only
      rw [if_pos ⟨c, by omega⟩, show (⟨x.f0, x.f1, x.f2⟩ : S105) = x from rfl, show (ahead.length : Int) + ((opB x.f0 x.f1 x.f2).length : Int) = ((ahead.length + (opB x.f0 x.f1 x.f2).length : Nat) : Int) from by omega, e]
      simp
    · rw [if_neg c] at h2
      have := (Prod.mk.inj h2).2
      omega
end Go.Proofs.Ytfgfnflhdabmcaa.EhB
end
section
namespace Go.Proofs.Ytfgfnflhdabmcaa.Eh
open Go.RowKit Go.Proofs.Ytfgfnflhdabmcaa.G Go.Proofs.YtfgfnflhdabmcaaW.PrintWords Go.Proofs.YtfgfnflhdabmcaaW.PrintLast Go.Proofs.YtfgfnflhdabmcaaW.PrintMore Go.Proofs.Ytfgfnflhdabmcaa.Bit Go.Proofs.Ytfgfnflhdabmcaa.Leb Go.Proofs.Ytfgfnflhdabmcaa.EhOf
theorem near3 (x y z : Int) (k : Nat) (hk : 4 ≤ k) : ehframe_near.f k [x, y, z] = some (!(farB x || farB y || farB z)) := by
  obtain ⟨k, rfl⟩ : ∃ m, k = m + 4 := ⟨k - 4, by omega⟩
  unfold ehframe_near.f
  have h0 := near_step [x, y, z] 0 (by simp) (by simp) (k + 3)
  have h1 := near_step [x, y, z] 1 (by simp) (by simp) (k + 2)
  have h2 := near_step [x, y, z] 2 (by simp) (by simp) (k + 1)
  have h3 := near_end [x, y, z] k
  rw [show ((0 : Nat) : Int) = 0 from rfl, show rd [x, y, z] 0 = x from rfl] at h0
  rw [show rd [x, y, z] ((1 : Nat) : Int) = y from rfl] at h1
  rw [show rd [x, y, z] ((2 : Nat) : Int) = z from rfl] at h2
  rw [h0]
  cases hx : farB x
  · refine h1.trans ?_
    cases hy : farB y
    · refine h2.trans ?_
      cases hz : farB z
      · exact h3
      · rfl
    · rfl
  · rfl
/-- what a pointer is counted from -/
def offV (q at_ data : Int) : Int := if q = 16 then at_ else if q = 48 then data else 0
def fitsV (x s : Int) (g : Bool) : Bool :=
  if s = 2 then (if g = true then decide (-32768 ≤ x ∧ x < 32768) else decide (0 ≤ x ∧ x < 65536))
  else if s = 4 then (if g = true then decide (-2147483648 ≤ x ∧ x < 2147483648) else decide (0 ≤ x ∧ x < 4294967296))
  else if g = true then true else decide (0 ≤ x)
theorem sh15 : shl .i64 1 15 = 32768 := by decide +kernel
theorem sh31 : shl .i64 1 31 = 2147483648 := by decide +kernel
theorem sh16 : shl .i64 1 16 = 65536 := by decide +kernel
theorem sh32 : shl .i64 1 32 = 4294967296 := by decide +kernel
theorem sn15 : shl .i64 (-1) 15 = -32768 := by decide +kernel
theorem sn31 : shl .i64 (-1) 31 = -2147483648 := by decide +kernel
theorem dec_ite (x a b : Int) : (if x ≥ a then some (decide (x < b)) else some false) = some (decide (a ≤ x ∧ x < b)) := by
  by_cases h : x ≥ a
  · rw [if_pos h]; congr 1; simp; omega
  · rw [if_neg h]; congr 1; simp; omega
theorem dec_ite' (x b : Int) : (if x < 0 then some false else some (decide (x < b))) = some (decide (0 ≤ x ∧ x < b)) := by
  by_cases h : x < 0
  · rw [if_pos h]; congr 1; simp; omega
  · rw [if_neg h]; congr 1; simp; omega
theorem dec_ite3 (x : Int) : (if x < 0 then some false else some true) = some (decide (0 ≤ x)) := by
  by_cases h : x < 0
  · rw [if_pos h]; congr 1; simp; omega
  · rw [if_neg h]; congr 1; simp; omega
theorem fits_f (x s : Int) (g : Bool) (hs : s = 2 ∨ s = 4 ∨ s = 8) (k : Nat) (hk : 1 ≤ k) : leb_Fits.f k x (wrap64 (8 * s)) g = some (fitsV x s g) := by
  obtain ⟨k, rfl⟩ : ∃ m, k = m + 1 := ⟨k - 1, by omega⟩
  have w15 : wrap64 (16 - 1) = 15 := by decide +kernel
  have w31 : wrap64 (32 - 1) = 31 := by decide +kernel
  have e2 : wrap64 (8 * 2) = 16 := by decide +kernel
  have e4 : wrap64 (8 * 4) = 32 := by decide +kernel
  have e8 : wrap64 (8 * 8) = 64 := by decide +kernel
  unfold leb_Fits.f
  rcases hs with rfl | rfl | rfl
  · rw [e2, if_neg (by decide), leb_Fits.j0, if_neg (by decide)]
    cases g
    · rw [if_neg (by decide), if_neg (show ¬ (16 : Int) ≥ 63 by decide), if_pos (show (0 : Int) ≤ 16 by decide), sh16]
      exact dec_ite' x _
    · rw [if_pos rfl, if_neg (by decide), w15, if_pos (by decide), sn15, sh15]
      exact dec_ite x _ _
  · rw [e4, if_neg (by decide), leb_Fits.j0, if_neg (by decide)]
    cases g
    · rw [if_neg (by decide), if_neg (show ¬ (32 : Int) ≥ 63 by decide), if_pos (show (0 : Int) ≤ 32 by decide), sh32]
      exact dec_ite' x _
    · rw [if_pos rfl, if_neg (by decide), w31, if_pos (by decide), sn31, sh31]
      exact dec_ite x _ _
  · rw [e8, if_neg (by decide), leb_Fits.j0, if_neg (by decide)]
    cases g
    · rw [if_neg (by decide), if_pos (show (64 : Int) ≥ 63 by decide)]
      exact dec_ite3 x
    · rw [if_pos rfl, if_pos (by decide)]
      rfl
/-- a pointer's bytes, of a form of s bytes (0: in groups), with a sign or without, counted from q -/
def tailS (s : Int) (g : Bool) (x : Int) : List Int × Int :=
  if farB x = true ∨ (g = false ∧ x < 0) then ([], 11)
  else if s = 0 then (if g = true then (slebL x, 0) else (ulebL (x % 18446744073709551616).toNat, 0))
  else if fitsV x s g = true then (leB (x % 18446744073709551616) s.toNat, 0) else ([], 11)
def putS (s : Int) (g : Bool) (q v at_ data : Int) : List Int × Int :=
  if farB v = true ∨ farB at_ = true ∨ farB data = true then ([], 11) else tailS s g (wrap64 (v - offV q at_ data))
theorem leB_take (n : Nat) : ∀ (m : Nat) (u : Int), n ≤ m → (leB u m).take n = leB u n := by
  induction n with
  | zero => intro m u _; simp [leB]
  | succ n ih =>
    intro m u h
    obtain ⟨m, rfl⟩ : ∃ j, m = j + 1 := ⟨m - 1, by omega⟩
    simp only [leB, List.take_succ_cons]
    rw [ih m _ (by omega)]
theorem tail_f (s : Int) (g : Bool) (x : Int) (hs : s = 0 ∨ s = 2 ∨ s = 4 ∨ s = 8) (k : Nat) (hk : 20 ≤ k) : ehframe_Put.j0 k x s g = some (tailS s g x) := by
  obtain ⟨k, rfl⟩ : ∃ m, k = m + 3 := ⟨k - 3, by omega⟩
  unfold tailS
  rw [ehframe_Put.j0, near1 x (k + 2) (by omega)]
  simp only [Option.bind_some]
  cases hf : farB x
  · simp only [Bool.not_false, if_true, false_or]
    have hr := far_no hf
    have hb : ∀ b : Bool, b = false → ehframe_Put.j1 (k + 2) x b s g = if s = 0 then (if g = true then some (slebL x, 0) else some (ulebL (x % 18446744073709551616).toNat, 0)) else if fitsV x s g = true then some (leB (x % 18446744073709551616) s.toNat, 0) else some ([], 11) := by
      intro b hb
      subst hb
      rw [ehframe_Put.j1, if_neg (by decide)]
      by_cases s0 : s = 0
      · rw [if_pos s0, if_pos s0, ehframe_Put.j2]
        cases g
        · rw [if_neg (by decide), if_pos s0, uleb_f x k (by omega)]
          rfl
        · rw [if_pos rfl, sleb_f x (by omega) (by omega) k (by omega)]
          rfl
      · have hs' : s = 2 ∨ s = 4 ∨ s = 8 := by omega
        rw [if_neg s0, if_neg s0, ehframe_Put.j2, if_neg (by decide), if_neg s0, fits_f x s g hs' k (by omega)]
        simp only [Option.bind_some]
        cases hfi : fitsV x s g
        · rfl
        · rw [if_pos rfl, if_pos rfl, put_f x 8 k (by omega), show putV x 8 = (leB (x % 18446744073709551616) 8, 0) from by simp [putV, sizedB]]
          simp only [Option.bind_some]
          rw [if_pos (by omega), if_pos (by rw [leB_length]; omega), leB_take _ _ _ (by omega)]
    cases g
    · simp only [Bool.false_eq_true, if_false, true_and, false_or]
      by_cases hx : x < 0
      · rw [if_pos hx, decide_eq_true hx, ehframe_Put.j1, if_pos rfl]
      · rw [if_neg hx, decide_eq_false hx, hb false rfl]
        simp only [Bool.false_eq_true, if_false]
        split
        · rfl
        · split <;> rfl
    · simp only [if_true, Bool.true_eq_false, false_and, if_false]
      rw [hb false rfl]
      simp only [if_true]
      split
      · rfl
      · split <;> rfl
  · simp only [Bool.not_true, Bool.false_eq_true, if_false, true_or, if_true]
    rw [ehframe_Put.j1, if_pos rfl]
theorem prog_put {a0 s q : Int} {g : Bool} (hof : ofF a0 = (s, g, q, true)) (hs : s = 0 ∨ s = 2 ∨ s = 4 ∨ s = 8) (v at_ data : Int) (hv : -9223372036854775808 ≤ v ∧ v ≤ 9223372036854775807) (k : Nat) (hk : 20 ≤ k) :
    ehframe_Put.f k a0 v at_ data = some (putS s g q v at_ data) := by
  unfold ehframe_Put.f putS
  rw [show ehframe_of.f a0 = some (s, g, q, true) from congrArg some hof]
  simp only [Option.bind_some, if_true]
  rw [near3 v at_ data k (by omega)]
  simp only [Option.bind_some]
  by_cases hf : farB v = true ∨ farB at_ = true ∨ farB data = true
  · rw [if_pos hf, if_neg (by rcases hf with h | h | h <;> simp [h])]
  · have hf' : farB v = false ∧ farB at_ = false ∧ farB data = false := by
      refine ⟨?_, ?_, ?_⟩ <;> (rw [← Bool.not_eq_true]; intro h; exact hf (by simp [h]))
    rw [if_neg hf, if_pos (by simp [hf'.1, hf'.2.1, hf'.2.2])]
    unfold offV
    by_cases q1 : q = 16
    · rw [if_pos q1, if_pos q1, tail_f s g _ hs k hk]
    · rw [if_neg q1, if_neg q1]
      by_cases q2 : q = 48
      · rw [if_pos q2, if_pos q2, tail_f s g _ hs k hk]
      · rw [if_neg q2, if_neg q2, tail_f s g _ hs k hk, show wrap64 (v - 0) = v from by unfold wrap64; omega]
/-- an encoding that is one -/
theorem enc_good (a0 : Int) (h : ∃ s q g, ofF a0 = (s, g, q, true)) : a0 ∈ [0, 1, 2, 3, 4, 9, 10, 11, 12, 16, 17, 18, 19, 20, 25, 26, 27, 28, 48, 49, 50, 51, 52, 57, 58, 59, 60] := by
  obtain ⟨s, q, g, h⟩ := h
  unfold ofF at h
  split at h
  · cases h
  · split at h
    · cases h
    · rename_i h1 h2
      have h3 := congrArg (fun p => p.2.2.2) h
      simp only at h3
      unfold formOf at h3
      simp only [List.mem_cons, List.not_mem_nil, or_false]
      have hm : a0 % 16 = 0 ∨ a0 % 16 = 1 ∨ a0 % 16 = 2 ∨ a0 % 16 = 3 ∨ a0 % 16 = 4 ∨ a0 % 16 = 9 ∨ a0 % 16 = 10 ∨ a0 % 16 = 11 ∨ a0 % 16 = 12 := by
        repeat' split at h3
        all_goals (first | omega | cases h3)
      omega
theorem enc_size (a0 : Int) (h : a0 ∈ [0, 1, 2, 3, 4, 9, 10, 11, 12, 16, 17, 18, 19, 20, 25, 26, 27, 28, 48, 49, 50, 51, 52, 57, 58, 59, 60]) : ofF a0 = ((ofF a0).1, (ofF a0).2.1, (ofF a0).2.2.1, true) ∧ ((ofF a0).1 = 0 ∨ (ofF a0).1 = 2 ∨ (ofF a0).1 = 4 ∨ (ofF a0).1 = 8) ∧ (wrap64 (wrap64 (Int.tdiv a0 16) * 16) = (ofF a0).2.2.1) := by
  simp only [List.mem_cons, List.not_mem_nil, or_false] at h
  rcases h with rfl | rfl | rfl | rfl | rfl | rfl | rfl | rfl | rfl | rfl | rfl | rfl | rfl | rfl | rfl | rfl | rfl | rfl | rfl | rfl | rfl | rfl | rfl | rfl | rfl | rfl | rfl
  all_goals exact ⟨by decide +kernel, by decide +kernel, by decide +kernel⟩
end Go.Proofs.Ytfgfnflhdabmcaa.Eh
end
section
namespace Go.Proofs.Ytfgfnflhdabmcaa.Eh
set_option linter.unusedSectionVars false
open Go.RowKit Go.Proofs.Ytfgfnflhdabmcaa.G Go.Proofs.YtfgfnflhdabmcaaW.PrintWords Go.Proofs.YtfgfnflhdabmcaaW.PrintLast Go.Proofs.YtfgfnflhdabmcaaW.PrintMore Go.Proofs.Ytfgfnflhdabmcaa.Bit Go.Proofs.Ytfgfnflhdabmcaa.Leb Go.Proofs.Ytfgfnflhdabmcaa.EhOf
theorem check_k (c : List S69) (f : List S46) (k : Nat) (hk : 3 * c.length + 3 * f.length + 40 ≤ k) : ehframe_Check.f k c f = some (checkV c f) := rfl
/-- what a good table is -/
theorem check_good {c : List S69} {f : List S46} (h : checkV c f = 0) : c.length ≤ 4000 ∧ f.length ≤ 4000 ∧ (∀ x ∈ c, okC0 x = true) ∧ (∀ y ∈ f, okF0 y = true) ∧ (∀ x ∈ c, okC1 x = true) ∧ (∀ y ∈ f, okF1 c.length y = true) ∧ (∀ x ∈ c, okC2 x = true) ∧ (∀ y ∈ f, okF2 c y = true) := by
  unfold checkV at h
  split at h
  · cases h
  split at h
  · cases h
  split at h
  · cases h
  split at h
  · cases h
  split at h
  · cases h
  split at h
  · cases h
  split at h
  · cases h
  rename_i h0 h1 h2 h3 h4 h5 h6
  rw [Bool.not_eq_false] at h1 h2 h3 h4 h5 h6
  exact ⟨by omega, by omega, List.all_eq_true.1 h1, List.all_eq_true.1 h2, List.all_eq_true.1 h3, List.all_eq_true.1 h4, List.all_eq_true.1 h5, List.all_eq_true.1 h6⟩
end Go.Proofs.Ytfgfnflhdabmcaa.Eh
end
section
namespace Go.Proofs.Ytfgfnflhdabmcaa.Eh
open Go.RowKit Go.Proofs.Ytfgfnflhdabmcaa.G Go.Proofs.YtfgfnflhdabmcaaW.PrintWords Go.Proofs.YtfgfnflhdabmcaaW.PrintLast Go.Proofs.YtfgfnflhdabmcaaW.PrintMore Go.Proofs.Ytfgfnflhdabmcaa.Bit Go.Proofs.Ytfgfnflhdabmcaa.Leb Go.Proofs.Ytfgfnflhdabmcaa.EhOf
/-- ops as bytes -/
def wB (l : List S105) : List Int := (CfaB.writeV (Cfa.opl l)).1
theorem outB_le (l : List (Int × Int × Int)) : ∀ acc, (CfaB.outB l acc).1.length ≤ acc.length + 30 * l.length := by
  induction l with
  | nil => intro acc; simp [CfaB.outB]
  | cons o l ih =>
    intro acc
    obtain ⟨ok, or_, on⟩ := o
    simp only [CfaB.outB, List.length_cons]
    split
    · rename_i h
      have := ih (acc ++ CfaB.opB ok or_ on)
      have h2 := CfaB.opB_le h
      simp only [List.length_append] at this
      omega
    · simp
theorem wB_le {l : List S105} (h : l.length ≤ 4000) : (wB l).length ≤ 120000 := by
  unfold wB CfaB.writeV
  split
  · simp
  · have := outB_le (Cfa.opl l) []
    rw [Cfa.opl_length] at this
    simp only [List.length_nil, Nat.zero_add] at this
    omega
theorem write_at (l : List S105) (h : l.length ≤ 4000) (k : Nat) (hk : 5000 ≤ k) : ∃ e, cfa_Write.f k l = some (wB l, e) := ⟨(CfaB.writeV (Cfa.opl l)).2, CfaB.write_f l k (by omega)⟩
/-- the low four bytes -/
def low4 (n : Int) : List Int := leB (n % 18446744073709551616) 4
theorem low4_length (n : Int) : (low4 n).length = 4 := leB_length 4 _
theorem low_k (n : Int) (k : Nat) (hk : 9 ≤ k) : ehframe_low.f k n = some (low4 n) := by
  unfold ehframe_low.f low4
  rw [put_f n 8 k hk, show putV n 8 = (leB (n % 18446744073709551616) 8, 0) from by simp [putV, sizedB]]
  simp only [Option.bind_some]
  rw [if_pos (by rw [leB_length]; omega), show ((4 : Int).toNat) = 4 from rfl, leB_take 4 8 _ (by omega)]
/-- how many bytes 0 a record lacks -/
def lack (n : Nat) : Nat := (12 - n % 8) % 8
def recB (b : List Int) : List Int := low4 ((b.length + lack b.length : Nat) : Int) ++ (b ++ List.replicate (lack b.length) 0)
theorem recB_length (b : List Int) : (recB b).length ≤ b.length + 11 := by
  unfold recB
  rw [List.length_append, low4_length, List.length_append, List.length_replicate]
  unfold lack
  omega
theorem record_l0 (d : Nat) : ∀ (k : Nat) (b : List Int), lack b.length = d → b.length ≤ 1000000 - d → d ≤ 8 → 20 ≤ k → ehframe_record.l0 (k + d + 1) b = some (low4 ((b.length + d : Nat) : Int) ++ (b ++ List.replicate d 0)) := by
  induction d with
  | zero =>
    intro k b h hb _ hk
    rw [show k + 0 + 1 = k + 1 from rfl, ehframe_record.l0, if_pos (by unfold lack at h; omega), low_k _ k (by omega)]
    simp only [Option.bind_some]
    rw [if_pos (by rw [low4_length]; omega)]
    simp
  | succ d ih =>
    intro k b h hb hd hk
    rw [show k + (d + 1) + 1 = (k + d + 1) + 1 from rfl, ehframe_record.l0, if_neg (by unfold lack at h; omega), if_pos (by omega)]
    have e := ih k (b ++ [0]) (by simp only [List.length_append, List.length_singleton]; unfold lack at h ⊢; omega) (by simp; omega) (by omega) hk
    rw [e]
    simp only [List.length_append, List.length_singleton, List.append_assoc, List.singleton_append]
    rw [show b.length + 1 + d = b.length + (d + 1) from by omega, List.replicate_succ]
theorem record_k (b : List Int) (hb : b.length ≤ 900000) (k : Nat) (hk : 40 ≤ k) : ehframe_record.f k b = some (recB b) := by
  unfold ehframe_record.f recB
  have hl : lack b.length < 8 := by unfold lack; omega
  obtain ⟨m, rfl⟩ : ∃ m, k = m + lack b.length + 1 := ⟨k - lack b.length - 1, by omega⟩
  exact record_l0 (lack b.length) m b rfl (by omega) (by omega) (by omega)
/-- a pointer's bytes, in any encoding -/
def pV (a0 v at_ : Int) : List Int × Int := if (ofF a0).2.2.2 = true then putS (ofF a0).1 (ofF a0).2.1 (ofF a0).2.2.1 v at_ 0 else ([], 140)
theorem ofF_size {a0 : Int} (h : (ofF a0).2.2.2 = true) : ofF a0 = ((ofF a0).1, (ofF a0).2.1, (ofF a0).2.2.1, true) ∧ ((ofF a0).1 = 0 ∨ (ofF a0).1 = 2 ∨ (ofF a0).1 = 4 ∨ (ofF a0).1 = 8) := by
  have h1 := enc_good a0 ⟨(ofF a0).1, (ofF a0).2.2.1, (ofF a0).2.1, by rw [← h]⟩
  exact ⟨(enc_size a0 h1).1, (enc_size a0 h1).2.1⟩
theorem put_k (a0 v at_ : Int) (hv : -9223372036854775808 ≤ v ∧ v ≤ 9223372036854775807) (k : Nat) (hk : 20 ≤ k) : ehframe_Put.f k a0 v at_ 0 = some (pV a0 v at_) := by
  unfold pV
  by_cases h : (ofF a0).2.2.2 = true
  · rw [if_pos h]
    exact prog_put (ofF_size h).1 (ofF_size h).2 v at_ 0 hv k hk
  · rw [if_neg h]
    rw [Bool.not_eq_true] at h
    unfold ehframe_Put.f
    rw [show ehframe_of.f a0 = some ((ofF a0).1, (ofF a0).2.1, (ofF a0).2.2.1, false) from congrArg some (by rw [← h])]
    rfl
theorem tailS_le (s : Int) (g : Bool) (x : Int) (hs : s = 0 ∨ s = 2 ∨ s = 4 ∨ s = 8) : (tailS s g x).1.length ≤ 10 := by
  unfold tailS
  split
  · simp
  rename_i hx
  have hf : farB x = false := by rw [← Bool.not_eq_true]; intro h; exact hx (.inl h)
  have hr := far_no hf
  split
  · split
    · exact CfaB.S_le (by omega) (by omega)
    · exact CfaB.U_le x
  · split
    · show (leB _ _).length ≤ 10
      rw [leB_length]; omega
    · simp
theorem pV_le (a0 v at_ : Int) : (pV a0 v at_).1.length ≤ 10 := by
  unfold pV
  split
  · rename_i h
    unfold putS
    split
    · simp
    · exact tailS_le _ _ _ (ofF_size h).2
  · simp
def e15 (a : Int) : Int := Go.bits .and .i64 a 15
def headB (enc : Int) : List Int := [0, 0, 0, 0, 1, 122, 82, 0, 1, 120, 16, 1, enc % 256]
/-- a function's entry -/
def fdeB (n : Nat) (first : Int) (p q : List Int) (ops : List S105) : List Int := recB (low4 (wrap64 (wrap64 ((n : Int) + 4) - first)) ++ p ++ q ++ [0] ++ wB ops)
def inV (ci first enc a2 : Int) : List S46 → Nat → List Int → List Int → Option (List Int × List Int)
  | [], _, b, at_ => some (b, at_)
  | y :: l, i, b, at_ =>
    if y.f0 = ci then
      if (pV enc y.f1 (wrap64 (wrap64 (a2 + (b.length : Int)) + 8))).2 = 0 then
        if (pV (e15 enc) y.f2 0).2 = 0 then inV ci first enc a2 l (i + 1) (b ++ fdeB b.length first (pV enc y.f1 (wrap64 (wrap64 (a2 + (b.length : Int)) + 8))).1 (pV (e15 enc) y.f2 0).1 y.f3) (at_.set i (b.length : Int))
        else none
      else none
    else inV ci first enc a2 l (i + 1) b at_
def outV (fs : List S46) (a2 : Int) : List S69 → Nat → List Int → List Int → Option (List Int × List Int)
  | [], _, b, at_ => some (b, at_)
  | x :: l, ci, b, at_ => (inV (ci : Int) (b.length : Int) x.f0 a2 fs 0 (b ++ recB (headB x.f0 ++ wB x.f1)) at_).bind fun r => outV fs a2 l (ci + 1) r.1 r.2
theorem fde_le (n : Nat) (first : Int) (p q : List Int) (ops : List S105) (hp : p.length ≤ 10) (hq : q.length ≤ 10) (ho : ops.length ≤ 4000) : (fdeB n first p q ops).length ≤ 130000 := by
  have h1 := recB_length (low4 (wrap64 (wrap64 ((n : Int) + 4) - first)) ++ p ++ q ++ [0] ++ wB ops)
  have h2 := wB_le ho
  simp only [List.length_append, low4_length, List.length_singleton] at h1
  unfold fdeB
  omega
/-- an entry's fields are in range -/
structure OkF (y : S46) : Prop where
  ops : y.f3.length ≤ 4000
  b : -9223372036854775808 ≤ y.f1 ∧ y.f1 ≤ 9223372036854775807
  s : -9223372036854775808 ≤ y.f2 ∧ y.f2 ≤ 9223372036854775807
theorem in_l1 (fs : List S46) (hn : fs.length ≤ 4000) (hok : ∀ y ∈ fs, OkF y) (a2 : Int) (e : Bool) (ci first : Int) (c : List S69) (cn cj enc : Int) (ops : List S105) (d : Nat) :
    ∀ (k i : Nat) (b at_ : List Int), i + d = fs.length → at_.length = fs.length → b.length + 130000 * d ≤ 100000000000000 → 5000 ≤ k →
      ehframe_Write.l1 (k + d + 1) fs a2 e b at_ ci first c cn cj fs (fs.length : Int) (i : Int) enc ops = match inV ci first enc a2 (fs.drop i) i b at_ with
        | none => some ([], [], 11)
        | some r => ehframe_Write.l0 k fs a2 e r.1 r.2 c cn (wrap64 (cj + 1)) := by
  induction d with
  | zero =>
    intro k i b at_ h _ _ hk
    rw [show k + 0 + 1 = k + 1 from rfl, ehframe_Write.l1, if_neg (by omega), List.drop_of_length_le (by omega)]
    rfl
  | succ d ih =>
    intro k i b at_ h ha hb hk
    have hi : i < fs.length := by omega
    have hy := atF fs i hi
    have hm : rd_T46 fs (i : Int) ∈ fs := List.mem_of_mem_drop (by rw [hy]; exact List.mem_cons_self)
    obtain ⟨o1, o2, o3⟩ := hok _ hm
    rw [show k + (d + 1) + 1 = (k + d + 1) + 1 from rfl, ehframe_Write.l1, if_pos (by omega), if_pos (by omega), if_pos (by omega), hy]
    generalize rd_T46 fs (i : Int) = y at o1 o2 o3
    simp only [inV]
    by_cases hci : y.f0 = ci
    · rw [if_pos hci, if_pos hci, if_pos (by omega), low_k _ _ (by omega)]
      simp only [Option.bind_some]
      rw [put_k enc y.f1 _ o2 _ (by omega)]
      simp only [Option.bind_some]
      have hp := pV_le enc y.f1 (wrap64 (wrap64 (a2 + (b.length : Int)) + 8))
      generalize pV enc y.f1 (wrap64 (wrap64 (a2 + (b.length : Int)) + 8)) = p at hp
      by_cases hp0 : p.2 = 0
      · rw [if_pos hp0, if_pos hp0, put_k _ y.f2 0 o3 _ (by omega)]
        simp only [Option.bind_some]
        rw [show Go.bits .and .i64 enc 15 = e15 enc from rfl]
        have hq := pV_le (e15 enc) y.f2 0
        generalize pV (e15 enc) y.f2 0 = q at hq
        by_cases hq0 : q.2 = 0
        · obtain ⟨er, hw⟩ := write_at y.f3 o1 (k + d + 1) (by omega)
          have hwl := wB_le o1
          rw [if_pos hq0, if_pos hq0, hw]
          simp only [Option.bind_some]
          rw [if_pos (by rw [low4_length]; omega)]
          simp only [List.length_append, low4_length]
          rw [if_pos (by omega), if_pos (by omega)]
          simp only [List.length_append, low4_length, List.length_singleton]
          rw [if_pos (by omega), record_k _ (by simp only [List.length_append, low4_length, List.length_singleton]; omega) _ (by omega)]
          simp only [Option.bind_some]
          have hfl := fde_le b.length first p.1 q.1 y.f3 hp hq o1
          rw [show recB (low4 (wrap64 (wrap64 ((b.length : Int) + 4) - first)) ++ p.1 ++ q.1 ++ [0] ++ wB y.f3) = fdeB b.length first p.1 q.1 y.f3 from rfl, if_pos (by omega), w1 hi hn, Int.toNat_natCast]
          exact ih k (i + 1) _ _ (by omega) (by rw [List.length_set]; exact ha) (by rw [List.length_append]; omega) hk
        · rw [if_neg hq0, if_neg hq0]
      · rw [if_neg hp0, if_neg hp0]
    · rw [if_neg hci, if_neg hci, w1 hi hn]
      exact ih k (i + 1) b at_ (by omega) ha (by omega) hk
theorem in_len (ci first enc a2 : Int) (l : List S46) (hok : ∀ y ∈ l, OkF y) : ∀ (i : Nat) (b at_ : List Int) (r : List Int × List Int), inV ci first enc a2 l i b at_ = some r → r.1.length ≤ b.length + 130000 * l.length ∧ r.2.length = at_.length := by
  induction l with
  | nil => intro i b at_ r h; simp only [inV, Option.some.injEq] at h; subst h; simp
  | cons y l ih =>
    intro i b at_ r h
    have ih' := ih (fun y hy => hok y (List.mem_cons_of_mem _ hy))
    simp only [inV] at h
    split at h
    · split at h
      · split at h
        · have := ih' _ _ _ _ h
          have h2 := fde_le b.length first (pV enc y.f1 (wrap64 (wrap64 (a2 + (b.length : Int)) + 8))).1 (pV (e15 enc) y.f2 0).1 y.f3 (pV_le _ _ _) (pV_le _ _ _) (hok y List.mem_cons_self).ops
          rw [List.length_append, List.length_set] at this
          simp only [List.length_cons]
          omega
        · cases h
      · cases h
    · have := ih' _ _ _ _ h
      simp only [List.length_cons]
      omega
/-- what comes behind all tables -/
def lastV (e : Bool) (b at_ : List Int) : List Int × List Int × Int :=
  if (((if e = true then b ++ [0, 0, 0, 0] else b).length : Nat) : Int) > 1048576 then ([], [], 6) else (if e = true then b ++ [0, 0, 0, 0] else b, at_, 0)
theorem out_l0 (fs : List S46) (hn : fs.length ≤ 4000) (hok : ∀ y ∈ fs, OkF y) (a2 : Int) (e : Bool) (c : List S69) (hc : c.length ≤ 4000) (hco : ∀ x ∈ c, x.f1.length ≤ 4000) (d : Nat) :
    ∀ (k ci : Nat) (b at_ : List Int), ci + d = c.length → at_.length = fs.length → b.length + 1000000000 * d ≤ 99000000000000 → 5000 ≤ k →
      ehframe_Write.l0 (k + d * (fs.length + 2) + 1) fs a2 e b at_ c (c.length : Int) (ci : Int) = some (match outV fs a2 (c.drop ci) ci b at_ with
        | none => ([], [], 11)
        | some r => lastV e r.1 r.2) := by
  induction d with
  | zero =>
    intro k ci b at_ h _ hb hk
    rw [Nat.zero_mul, show k + 0 + 1 = k + 1 from rfl, ehframe_Write.l0, if_neg (by omega), List.drop_of_length_le (by omega)]
    simp only [outV, lastV]
    cases e
    · simp only [Bool.false_eq_true, if_false]
      split <;> rfl
    · simp only [if_true, Option.bind_some]
      rw [if_pos (by simp; omega)]
      split <;> rfl
  | succ d ih =>
    intro k ci b at_ h ha hb hk
    have hi : ci < c.length := by omega
    have hy := atC c ci hi
    have hm : rd_T69 c (ci : Int) ∈ c := List.mem_of_mem_drop (by rw [hy]; exact List.mem_cons_self)
    have ho := hco _ hm
    rw [show k + (d + 1) * (fs.length + 2) + 1 = ((k + d * (fs.length + 2) + 1) + fs.length + 1) + 1 from by rw [Nat.succ_mul]; omega, ehframe_Write.l0, if_pos (by omega), if_pos (by omega), if_pos (by omega), hy]
    generalize rd_T69 c (ci : Int) = x at ho
    obtain ⟨er, hw⟩ := write_at x.f1 ho ((k + d * (fs.length + 2) + 1) + fs.length + 1) (by omega)
    have hwl := wB_le ho
    have hrl := recB_length (headB x.f0 ++ wB x.f1)
    simp only [List.length_append, show (headB x.f0).length = 13 from rfl] at hrl
    rw [hw]
    simp only [Option.bind_some, show ehframe_head.f x.f0 = some (headB x.f0) from rfl, show (headB x.f0).length = 13 from rfl]
    rw [if_pos (by omega), record_k _ (by simp only [List.length_append, show (headB x.f0).length = 13 from rfl]; omega) _ (by omega)]
    simp only [Option.bind_some]
    rw [if_pos (by omega)]
    have h1 := in_l1 fs hn hok a2 e (ci : Int) (b.length : Int) c (c.length : Int) (ci : Int) x.f0 x.f1 fs.length (k + d * (fs.length + 2) + 1) 0 (b ++ recB (headB x.f0 ++ wB x.f1)) at_ (by omega) ha (by rw [List.length_append]; omega) (by omega)
    rw [show ((0 : Nat) : Int) = 0 from rfl, List.drop_zero] at h1
    rw [h1]
    simp only [outV]
    cases hv : inV (ci : Int) (b.length : Int) x.f0 a2 fs 0 (b ++ recB (headB x.f0 ++ wB x.f1)) at_ with
    | none => rfl
    | some r =>
      have hl := in_len _ _ _ _ fs hok _ _ _ _ hv
      rw [List.length_append] at hl
      simp only [Option.bind_some]
      rw [w1 hi hc]
      exact ih k (ci + 1) r.1 r.2 (by omega) (by omega) (by omega) hk
/-- the table's bytes, the entries' places, an error's number -/
def wrV (c : List S69) (fs : List S46) (a2 : Int) (e : Bool) : List Int × List Int × Int :=
  if checkV c fs = 0 then
    if a2 < 0 ∨ 576460752303423488 < a2 then ([], [], 11)
    else match outV fs a2 c 0 [] (List.replicate fs.length 0) with
      | none => ([], [], 11)
      | some r => lastV e r.1 r.2
  else ([], [], checkV c fs)
theorem okF_of {y : S46} {n : Nat} (h0 : okF0 y = true) (h1 : okF1 n y = true) : OkF y := by
  simp only [okF0, decide_eq_true_eq] at h0
  simp only [okF1, Bool.and_eq_true, decide_eq_true_eq, Bool.not_eq_true'] at h1
  have := far_no h1.1.1.2
  exact ⟨by omega, by omega, by omega⟩
theorem write_k (c : List S69) (fs : List S46) (a2 : Int) (e : Bool) (k : Nat) (hk : 20000 + 3 * c.length + 3 * fs.length + 4000 * 4002 ≤ k) : ehframe_Write.f k c fs a2 e = some (wrV c fs a2 e) := by
  unfold ehframe_Write.f wrV
  rw [check_k c fs k (by omega)]
  simp only [Option.bind_some]
  by_cases h : checkV c fs = 0
  · obtain ⟨hc, hf, g0, g1, g2, g3, g4, g5⟩ := check_good h
    rw [if_pos h, if_pos h]
    obtain ⟨k, rfl⟩ : ∃ m, k = m + 1 := ⟨k - 1, by omega⟩
    have bad : ehframe_Write.j0 (k + 1) c fs a2 e [] true = some ([], [], 11) := by rw [ehframe_Write.j0, if_pos rfl]
    by_cases ha : a2 < 0
    · rw [if_pos ha, if_pos (.inl ha), bad]
    · rw [if_neg ha]
      by_cases hb : a2 > 576460752303423488
      · rw [decide_eq_true hb, if_pos (.inr hb), bad]
      · rw [decide_eq_false hb, if_neg (by omega), ehframe_Write.j0, if_neg (by decide), if_pos (by omega), if_pos (by omega), Int.toNat_natCast]
        have hmul : c.length * (fs.length + 2) ≤ 4000 * 4002 := Nat.mul_le_mul hc (by omega)
        obtain ⟨m, rfl⟩ : ∃ m, k = m + c.length * (fs.length + 2) + 1 := ⟨k - c.length * (fs.length + 2) - 1, by omega⟩
        have h1 := out_l0 fs hf (fun y hy => okF_of (g1 y hy) (g3 y hy)) a2 e c hc (fun x hx => by have := g0 x hx; simp only [okC0, decide_eq_true_eq] at this; omega) c.length m 0 [] (List.replicate fs.length 0) (by omega) (by simp) (by simp; omega) (by omega)
        rw [show ((0 : Nat) : Int) = 0 from rfl, List.drop_zero] at h1
        exact h1.trans (congrArg some (by cases outV fs a2 c 0 [] (List.replicate fs.length 0) <;> rfl))
  · rw [if_neg h, if_neg h]
end Go.Proofs.Ytfgfnflhdabmcaa.Eh
end
section
namespace Go.Proofs.Ytfgfnflhdabmcaa.EhB
open Go.RowKit Go.Proofs.Ytfgfnflhdabmcaa.G Go.Proofs.YtfgfnflhdabmcaaW.PrintWords Go.Proofs.YtfgfnflhdabmcaaW.PrintLast Go.Proofs.YtfgfnflhdabmcaaW.PrintMore Go.Proofs.Ytfgfnflhdabmcaa.Bit Go.Proofs.Ytfgfnflhdabmcaa.Leb Go.Proofs.Ytfgfnflhdabmcaa.Cfa Go.Proofs.Ytfgfnflhdabmcaa.CfaB Go.Proofs.Ytfgfnflhdabmcaa.EhRd Go.Proofs.Ytfgfnflhdabmcaa.Eh
def nop : S105 := ⟨0, 0, 0⟩
abbrev May (l : List (Int × Int × Int)) : Prop := ∀ o ∈ l, mayF o.1 o.2.1 o.2.2 = true
theorem does_may {t t' : T} {k r n : Int} (h : does t k r n = some t') : mayF k r n = true := by
  unfold does at h
  cases hm : mayF k r n
  · rw [if_pos hm] at h
    cases h
  · rfl
theorem doAll_may (l : List (Int × Int × Int)) : ∀ (t t' : T), doAll t l = some t' → May l := by
  induction l with
  | nil => intro t t' _ o ho; cases ho
  | cons x l ih =>
    intro t t' h o ho
    obtain ⟨u, hu, h⟩ := Option.bind_eq_some_iff.1 (show (does t x.1 x.2.1 x.2.2).bind (fun t' => doAll t' l) = some t' from h)
    rcases List.mem_cons.1 ho with rfl | ho
    · exact does_may hu
    · exact ih u t' h o ho
theorem outB_may (l : List (Int × Int × Int)) (h : May l) : ∀ acc, (outB l acc).2 = 0 ∧ ∀ m, May m → outB (l ++ m) acc = outB m (outB l acc).1 := by
  induction l with
  | nil => intro acc; exact ⟨rfl, fun m _ => rfl⟩
  | cons x l ih =>
    obtain ⟨k, r, n⟩ := x
    intro acc
    have h1 := h (k, r, n) List.mem_cons_self
    have ih := ih (fun o ho => h o (List.mem_cons_of_mem _ ho))
    simp only [List.cons_append, outB]
    rw [if_pos h1]
    exact ⟨(ih _).1, fun m hm => by rw [if_pos h1]; exact (ih _).2 m hm⟩
theorem outB_nops (z : Nat) : ∀ acc, outB (List.replicate z (0, 0, 0)) acc = (acc ++ List.replicate z 0, 0) := by
  induction z with
  | zero => intro acc; simp [outB]
  | succ z ih =>
    intro acc
    rw [List.replicate_succ, outB, if_pos (by decide), ih]
    simp [opB, List.replicate_succ]
theorem opl_append (a b : List S105) : opl (a ++ b) = opl a ++ opl b := by simp [opl]
theorem opl_nops (z : Nat) : opl (List.replicate z nop) = List.replicate z (0, 0, 0) := by simp [opl, nop]
theorem wB_eq {l : List S105} (hl : l.length ≤ 4000) : wB l = (outB (opl l) []).1 := by
  unfold wB writeV
  rw [if_neg (by rw [opl_length]; omega)]
theorem wB_range {l : List S105} (hl : l.length ≤ 4000) (hm : May (opl l)) : ∀ b ∈ wB l, 0 ≤ b ∧ b ≤ 255 := by
  rw [wB_eq hl]
  obtain ⟨⟨B, er⟩, hB⟩ : ∃ p, outB (opl l) [] = p := ⟨_, rfl⟩
  have h0 := (outB_may _ hm []).1
  rw [hB] at h0 ⊢
  obtain rfl : er = 0 := h0
  exact (out_grows _ _ _ hB).2.1 (by simp)
theorem opsV_wB (l : List S105) (hl : l.length ≤ 3992) (hm : May (opl l)) (z : Nat) (hz : z ≤ 8) : opsV (wB l ++ List.replicate z 0) = some (l ++ List.replicate z nop) := by
  have h1 : outB (opl (l ++ List.replicate z nop)) [] = (wB l ++ List.replicate z 0, 0) := by
    rw [opl_append, opl_nops, (outB_may _ hm []).2 _ (by intro o ho; rw [List.eq_of_mem_replicate ho]; decide), outB_nops, wB_eq (by omega)]
  have hg := out_grows _ _ _ h1
  have hlen : (l ++ List.replicate z nop).length = l.length + z := by simp
  have hle : (wB l ++ List.replicate z 0).length ≤ 200000 := by
    have := wB_le (l := l) (by omega)
    simp
    omega
  have hge := hg.1
  obtain ⟨rest, hr, hrl⟩ := hge
  simp only [List.nil_append] at hr
  rw [opl_length, hlen, ← hr] at hrl
  have hR := readR_out (wB l ++ List.replicate z 0) (hg.2.1 (by simp)) (by omega) (l ++ List.replicate z nop) [] [] ((wB l ++ List.replicate z 0).length + 1) h1 (by rw [hlen]; simp; omega) (by rw [hlen]; omega)
  have hf : cfa_Read.f (wB l ++ List.replicate z 0) = some (l ++ List.replicate z nop, 0) := by
    unfold cfa_Read.f CfaRd.readF
    rw [if_pos (by omega)]
    rw [show (([] : List Int).length : Int) = 0 from rfl] at hR
    rw [hR]
    rfl
  unfold opsV
  rw [hf]
  simp only
  rw [if_pos ⟨trivial, by rw [hlen]; omega⟩]
theorem trim_nops (l : List S105) (z : Nat) : trim (l ++ List.replicate z nop) = trim l := by
  induction z with
  | zero => simp
  | succ z ih => rw [List.replicate_succ', ← List.append_assoc, trim_snoc, if_pos (show nop.f0 = 0 from rfl), ih]
theorem trim_split (l : List S105) : ∃ r : List S105, l = trim l ++ r ∧ ∀ o ∈ r, o.f0 = 0 := by
  induction h : l.length generalizing l with
  | zero =>
    obtain rfl : l = [] := List.eq_nil_of_length_eq_zero h
    exact ⟨[], rfl, by simp⟩
  | succ n ih =>
    have hne : l ≠ [] := by intro e; rw [e] at h; cases h
    obtain ⟨a, o, rfl⟩ : ∃ a o, l = a ++ [o] := ⟨l.dropLast, l.getLast hne, (List.dropLast_concat_getLast hne).symm⟩
    rw [trim_snoc]
    split
    · rename_i h0
      obtain ⟨r, hr, hz⟩ := ih a (by simpa using h)
      refine ⟨r ++ [o], ?_, fun x hx => ?_⟩
      · rw [← List.append_assoc, ← hr]
      · rcases List.mem_append.1 hx with hx | hx
        · exact hz x hx
        · rw [List.mem_singleton.1 hx]; exact h0
    · exact ⟨[], by simp, by simp⟩
theorem trim_len (l : List S105) : (trim l).length ≤ l.length := by
  obtain ⟨r, hr, _⟩ := trim_split l
  have := congrArg List.length hr
  rw [List.length_append] at this
  omega
theorem doAll_append (a b : List (Int × Int × Int)) : ∀ t, doAll t (a ++ b) = (doAll t a).bind fun t' => doAll t' b := by
  induction a with
  | nil => intro t; rfl
  | cons x a ih =>
    intro t
    show (does t x.1 x.2.1 x.2.2).bind (fun t' => doAll t' (a ++ b)) = ((does t x.1 x.2.1 x.2.2).bind fun t' => doAll t' a).bind fun t' => doAll t' b
    cases does t x.1 x.2.1 x.2.2 with
    | none => rfl
    | some u => exact ih u
theorem doAll_nops (l : List (Int × Int × Int)) (h : ∀ o ∈ l, o.1 = 0) : ∀ t t', doAll t l = some t' → t' = t := by
  induction l with
  | nil => intro t t' h'; exact (Option.some.inj h').symm
  | cons x l ih =>
    intro t t' h'
    obtain ⟨u, hu, h2⟩ := Option.bind_eq_some_iff.1 (show (does t x.1 x.2.1 x.2.2).bind (fun t' => doAll t' l) = some t' from h')
    have hx := h x List.mem_cons_self
    have hm := does_may hu
    unfold does at hu
    rw [if_neg (by rw [hm]; decide), hx, if_neg (by omega)] at hu
    have : u = t := by
      unfold act at hu
      rw [if_pos rfl] at hu
      exact (Option.some.inj hu).symm
    subst this
    exact ih (fun o ho => h o (List.mem_cons_of_mem _ ho)) u t' h2
theorem doAll_trim (l : List S105) (t t' : T) (h : doAll t (opl l) = some t') : doAll t (opl (trim l)) = some t' := by
  obtain ⟨r, hr, hz⟩ := trim_split l
  rw [hr, opl_append, doAll_append] at h
  obtain ⟨u, hu, h⟩ := Option.bind_eq_some_iff.1 h
  have := doAll_nops (opl r) (by
    intro o ho
    obtain ⟨x, hx, rfl⟩ := List.mem_map.1 ho
    exact hz x hx) u t' h
  rw [hu, this]
theorem rows_run {a b : List S105} {n : Int} (h : (rowsOf (opl a) (opl b) n).2 = 0) : ¬ (n < 0 ∨ 1048576 < n) ∧ ∃ t t', doAll (fresh n) (opl a) = some t ∧ 0 ≤ t.now.getD 1 0 ∧ doAll { t with first := t.now, begun := true } (opl b) = some t' := by
  unfold rowsOf at h
  split at h
  · cases h
  rename_i h0
  split at h
  · cases h
  cases hr : run (opl a) (opl b) n with
  | none => rw [hr] at h; cases h
  | some t =>
    refine ⟨h0, ?_⟩
    obtain ⟨u, hu, hu2⟩ := Option.bind_eq_some_iff.1 (show (begin_ (fresh n) (opl a)).bind (fun t => doAll t (opl b)) = some t from hr)
    obtain ⟨v, hv, hv2⟩ := Option.bind_eq_some_iff.1 (show (doAll (fresh n) (opl a)).bind (fun t' => if 0 ≤ t'.now.getD 1 0 then some { t' with first := t'.now, begun := true } else none) = some u from hu)
    split at hv2
    · rename_i hc
      obtain rfl := Option.some.inj hv2
      exact ⟨v, t, hv, hc, hu2⟩
    · cases hv2
theorem rows_may {a b : List S105} {n : Int} (h : (rowsOf (opl a) (opl b) n).2 = 0) : May (opl a) ∧ May (opl b) := by
  obtain ⟨_, t, t', h1, _, h2⟩ := rows_run h
  exact ⟨doAll_may _ _ _ h1, doAll_may _ _ _ h2⟩
theorem rows_trim {a b : List S105} {n : Int} (ha : a.length ≤ 4000) (hb : b.length ≤ 4000) (h : (rowsOf (opl a) (opl b) n).2 = 0) : (rowsOf (opl (trim a)) (opl (trim b)) n).2 = 0 := by
  obtain ⟨h0, t, t', h1, h2, h3⟩ := rows_run h
  have h4 := doAll_trim a _ _ h1
  have h5 := doAll_trim b _ _ h3
  have hla := trim_len a
  have hlb := trim_len b
  unfold rowsOf
  rw [if_neg h0, if_neg (by rw [opl_length, opl_length]; omega)]
  unfold run begin_
  rw [h4, Option.bind_some, if_pos h2, Option.bind_some, h5]
end Go.Proofs.Ytfgfnflhdabmcaa.EhB
end
section
namespace Go.Proofs.Ytfgfnflhdabmcaa.G
open Go.RowKit Go.Proofs.YtfgfnflhdabmcaaW.PrintWords Go.Proofs.YtfgfnflhdabmcaaW.PrintLast Go.Proofs.YtfgfnflhdabmcaaW.PrintMore
attribute [local go_sem] max2_int min2_int max_two min_two max_three min_three max_four min_four
mutual
def gangwayref14_bytes.j0 : Nat → Int → Bool → Option (Int)
 | 0, _, _ => none
 | k + 1, x3, x4 => if x4 = true then (some 8) else (if x3 = 3 then (gangwayref14_bytes.j1 k x3 (x3 == 3)) else (gangwayref14_bytes.j1 k x3 (x3 == 11)))
def gangwayref14_bytes.j1 : Nat → Int → Bool → Option (Int)
 | 0, _, _ => none
 | k + 1, x3, x8 => if x8 = true then (some 4) else (if x3 = 2 then (gangwayref14_bytes.j2 k x3 (x3 == 2)) else (gangwayref14_bytes.j2 k x3 (x3 == 10)))
def gangwayref14_bytes.j2 : Nat → Int → Bool → Option (Int)
 | 0, _, _ => none
 | k + 1, x3, x11 => if x11 = true then (some 2) else (if x3 = 1 then (some 0) else (if x3 = 9 then (some 0) else (some (-1))))
end
def gangwayref14_bytes.f (k : Nat) (a0 : Int) : Option (Int) := if a0 = 0 then (gangwayref14_bytes.j0 k a0 (a0 == 0)) else (if a0 = 4 then (gangwayref14_bytes.j0 k a0 (a0 == 4)) else (gangwayref14_bytes.j0 k a0 (a0 == 12)))
def gangwayref14_Encoding.f (k : Nat) (a0 : Int) : Option (Bool) := if a0 < 0 then (some false) else ((gangwayref14_bytes.f k (Int.tmod a0 16)).bind fun t101 => (if t101 < 0 then (some false) else (if (wrap64 ((wrap64 (Int.tdiv a0 16)) * 16)) = 0 then (some true) else (if (wrap64 ((wrap64 (Int.tdiv a0 16)) * 16)) = 16 then (some true) else (some ((wrap64 ((wrap64 (Int.tdiv a0 16)) * 16)) == 48))))))
def gangwayref14_off.f (a0 : Int) (a1 : Int) (a2 : Int) : Option (Int) := if (wrap64 ((wrap64 (Int.tdiv a0 16)) * 16)) = 16 then (some a1) else (if (wrap64 ((wrap64 (Int.tdiv a0 16)) * 16)) = 48 then (some a2) else (some 0))
def gangwayref14_plain.f (a0 : Int) : Option (Bool) := if a0 = 1 then (some true) else (if a0 = 2 then (some true) else (if a0 = 3 then (some true) else (some (a0 == 4))))
end Go.Proofs.Ytfgfnflhdabmcaa.G
end
section
namespace Go.Proofs.Ytfgfnflhdabmcaa.Eh
open Go.RowKit Go.Proofs.Ytfgfnflhdabmcaa.G Go.Proofs.YtfgfnflhdabmcaaW.PrintWords Go.Proofs.YtfgfnflhdabmcaaW.PrintLast Go.Proofs.YtfgfnflhdabmcaaW.PrintMore Go.Proofs.Ytfgfnflhdabmcaa.Bit Go.Proofs.Ytfgfnflhdabmcaa.Leb Go.Proofs.Ytfgfnflhdabmcaa.EhOf
/-- what the reference reckons of an encoding -/
structure RefEnc (a0 s q : Int) (g : Bool) : Prop where
  enc : ∀ k, 10 ≤ k → gangwayref14_Encoding.f k a0 = some true
  bytes : ∀ k, 10 ≤ k → gangwayref14_bytes.f k (Int.tmod a0 16) = some s
  plain : gangwayref14_plain.f (Int.tmod a0 16) = some (!g)
  off : ∀ x y, gangwayref14_off.f a0 x y = some (offV q x y)
  uleb : Int.tmod a0 16 = 1 ↔ s = 0 ∧ g = false
  sleb : Int.tmod a0 16 = 9 ↔ s = 0 ∧ g = true
/-- a number that was read, as a pointer: e: an error's number -/
def endS (g : Bool) (q a1 a3 a4 x end_ e : Int) : Int × Int × Int :=
  if e = 0 then (if farB x = true ∨ (g = false ∧ x < 0) then (0, 0, 11) else if farB (wrap64 (x + offV q (wrap64 (a3 + a1)) a4)) = true then (0, 0, 11) else (wrap64 (x + offV q (wrap64 (a3 + a1)) a4), end_, 0)) else (0, 0, e)
theorem end_f (s q a1 a3 a4 x end_ e : Int) (g : Bool) (k : Nat) (hk : 20 ≤ k) : ehframe_Get.j0 k a1 a3 a4 x end_ e q s g = some (endS g q a1 a3 a4 x end_ e) := by
  obtain ⟨k, rfl⟩ : ∃ m, k = m + 2 := ⟨k - 2, by omega⟩
  rw [ehframe_Get.j0]
  unfold endS
  by_cases e0 : e = 0
  · rw [if_pos e0, if_pos e0, near1 x (k + 1) (by omega)]
    simp only [Option.bind_some]
    cases hf : farB x
    · have hr := far_no hf
      simp only [Bool.not_false, if_true, Bool.false_eq_true, false_or]
      have good : ehframe_Get.j1 (k + 1) a1 a3 a4 x end_ q false = some (if farB (wrap64 (x + offV q (wrap64 (a3 + a1)) a4)) = true then (0, 0, 11) else (wrap64 (x + offV q (wrap64 (a3 + a1)) a4), end_, 0)) := by
        rw [ehframe_Get.j1, if_neg (by decide)]
        unfold offV
        by_cases q1 : q = 16
        · rw [if_pos q1, if_pos q1, near1 _ k (by omega)]
          simp only [Option.bind_some]
          cases farB (wrap64 (x + wrap64 (a3 + a1))) <;> rfl
        · rw [if_neg q1, if_neg q1]
          by_cases q2 : q = 48
          · rw [if_pos q2, if_pos q2, near1 _ k (by omega)]
            simp only [Option.bind_some]
            cases farB (wrap64 (x + a4)) <;> rfl
          · rw [if_neg q2, if_neg q2, near1 _ k (by omega), show wrap64 (x + 0) = x from by unfold wrap64; omega, hf]
            rfl
      cases g
      · simp only [if_false, Bool.false_eq_true, true_and]
        by_cases hx : x < 0
        · rw [if_pos hx, decide_eq_true hx, ehframe_Get.j1, if_pos rfl]
        · rw [if_neg hx, decide_eq_false hx]
          exact good
      · simp only [if_true, Bool.true_eq_false, false_and, if_false]
        exact good
    · simp only [Bool.not_true, Bool.false_eq_true, if_false, true_or, if_true]
      rw [ehframe_Get.j1, if_pos rfl]
  · rw [if_neg e0, if_neg e0]
/-- what is read, of a form -/
def readS (s : Int) (g : Bool) (l : List Int) (a1 : Int) : Int × Int × Int :=
  if 0 < s then ((getV l a1 s g).1, wrap64 (a1 + s), (getV l a1 s g).2)
  else ((if g = true then leb_ReadSleb.f l a1 else leb_ReadUleb.f l a1).getD (0, 0, 0))
def getS (s : Int) (g : Bool) (q : Int) (l : List Int) (a1 a3 a4 : Int) : Int × Int × Int :=
  if farB a3 = true ∨ farB a4 = true then (0, 0, 11) else endS g q a1 a3 a4 (readS s g l a1).1 (readS s g l a1).2.1 (readS s g l a1).2.2
theorem readS_some (l : List Int) (a : Int) : ∃ r, leb_ReadSleb.f l a = some r := by exact ⟨_, rfl⟩
theorem readU_some (l : List Int) (a : Int) : ∃ r, leb_ReadUleb.f l a = some r := by exact ⟨_, rfl⟩
theorem prog_get {a2 s q : Int} {g : Bool} (hof : ofF a2 = (s, g, q, true)) (hs : s = 0 ∨ s = 2 ∨ s = 4 ∨ s = 8) (l : List Int) (hl : ∀ b ∈ l, 0 ≤ b ∧ b ≤ 255) (hm : l.length ≤ 9223372036854775807) (a1 a3 a4 : Int) (k : Nat) (hk : 20 ≤ k) :
    ehframe_Get.f k l a1 a2 a3 a4 = some (getS s g q l a1 a3 a4) := by
  unfold ehframe_Get.f getS readS
  rw [show ehframe_of.f a2 = some (s, g, q, true) from congrArg some hof]
  simp only [Option.bind_some, if_true]
  rw [near2 a3 a4 k (by omega)]
  simp only [Option.bind_some]
  by_cases hf : farB a3 = true ∨ farB a4 = true
  · rw [if_pos hf, if_neg (by rcases hf with h | h <;> simp [h])]
  · have hf' : farB a3 = false ∧ farB a4 = false := by
      refine ⟨?_, ?_⟩ <;> (rw [← Bool.not_eq_true]; intro h; exact hf (by simp [h]))
    rw [if_neg hf, if_pos (by simp [hf'.1, hf'.2])]
    by_cases s0 : 0 < s
    · rw [if_pos (show s > 0 from s0), get_f l a1 s g hl hm k (by omega)]
      simp only [Option.bind_some]
      rw [end_f _ _ _ _ _ _ _ _ _ k hk, if_pos s0]
    · rw [if_neg (show ¬ s > 0 from s0), if_neg s0]
      cases g
      · obtain ⟨r, hr⟩ := readU_some l a1
        rw [if_neg (by decide), if_neg (by decide), hr]
        simp only [Option.bind_some, Option.getD_some]
        exact end_f _ _ _ _ _ _ _ _ _ k hk
      · obtain ⟨r, hr⟩ := readS_some l a1
        rw [if_pos rfl, if_pos rfl, hr]
        simp only [Option.bind_some, Option.getD_some]
        exact end_f _ _ _ _ _ _ _ _ _ k hk
end Go.Proofs.Ytfgfnflhdabmcaa.Eh
end
section
namespace Go.Proofs.Ytfgfnflhdabmcaa.EhB
open Go.RowKit Go.Proofs.Ytfgfnflhdabmcaa.G Go.Proofs.YtfgfnflhdabmcaaW.PrintWords Go.Proofs.YtfgfnflhdabmcaaW.PrintLast Go.Proofs.YtfgfnflhdabmcaaW.PrintMore Go.Proofs.Ytfgfnflhdabmcaa.Bit Go.Proofs.Ytfgfnflhdabmcaa.Leb Go.Proofs.Ytfgfnflhdabmcaa.Eh Go.Proofs.Ytfgfnflhdabmcaa.EhOf
theorem fix_back (s : Int) (g : Bool) (x : Int) (hs : s = 2 ∨ s = 4 ∨ s = 8) (hf : fitsV x s g = true) (h0 : -9223372036854775808 ≤ x ∧ x ≤ 9223372036854775807) (ahead behind : List Int) :
    Leb.getV (ahead ++ leB (x % 18446744073709551616) s.toNat ++ behind) (ahead.length : Int) s g = (x, 0) := by
  have hz : sizedB s = true := by rcases hs with rfl | rfl | rfl <;> decide
  have hl : (leB (x % 18446744073709551616) s.toNat).length = s.toNat := leB_length _ _
  have hcut : ((ahead ++ leB (x % 18446744073709551616) s.toNat ++ behind).drop (ahead.length : Int).toNat).take s.toNat = leB (x % 18446744073709551616) s.toNat := by
    have e := List.take_left (l₁ := leB (x % 18446744073709551616) s.toNat) (l₂ := behind)
    rw [hl] at e
    rw [Int.toNat_natCast, List.append_assoc, List.drop_left, e]
  unfold Leb.getV
  rw [if_pos hz, if_neg (by simp only [List.length_append, hl]; omega), hcut, leN_leB]
  congr 1
  unfold sgnV
  unfold fitsV at hf
  rcases hs with rfl | rfl | rfl
  · rw [if_pos rfl] at hf
    cases g
    · simp only [Bool.false_eq_true, if_false, decide_eq_true_eq] at hf ⊢
      rw [show (256 : Int) ^ (2 : Int).toNat = 65536 from by decide]
      unfold wrap64
      omega
    · simp only [if_true, decide_eq_true_eq] at hf ⊢
      rw [show (256 : Int) ^ (2 : Int).toNat = 65536 from by decide, show (2 : Int) ^ (8 * (2 : Int).toNat - 1) = 32768 from by decide, show (2 : Int) ^ (8 * (2 : Int).toNat) = 65536 from by decide]
      split <;> omega
  · rw [if_neg (by decide), if_pos rfl] at hf
    cases g
    · simp only [Bool.false_eq_true, if_false, decide_eq_true_eq] at hf ⊢
      rw [show (256 : Int) ^ (4 : Int).toNat = 4294967296 from by decide]
      unfold wrap64
      omega
    · simp only [if_true, decide_eq_true_eq] at hf ⊢
      rw [show (256 : Int) ^ (4 : Int).toNat = 4294967296 from by decide, show (2 : Int) ^ (8 * (4 : Int).toNat - 1) = 2147483648 from by decide, show (2 : Int) ^ (8 * (4 : Int).toNat) = 4294967296 from by decide]
      split <;> omega
  · rw [if_neg (by decide), if_neg (by decide)] at hf
    cases g
    · simp only [Bool.false_eq_true, if_false, decide_eq_true_eq] at hf ⊢
      rw [show (256 : Int) ^ (8 : Int).toNat = 18446744073709551616 from by decide]
      unfold wrap64
      omega
    · simp only [if_true] at hf ⊢
      rw [show (256 : Int) ^ (8 : Int).toNat = 18446744073709551616 from by decide, show (2 : Int) ^ (8 * (8 : Int).toNat - 1) = 9223372036854775808 from by decide, show (2 : Int) ^ (8 * (8 : Int).toNat) = 18446744073709551616 from by decide]
      split <;> omega
theorem readS_at (s : Int) (g : Bool) (x : Int) (hs : s = 0 ∨ s = 2 ∨ s = 4 ∨ s = 8) (w : List Int) (h : tailS s g x = (w, 0)) (ahead behind : List Int) (hal : ahead.length ≤ 9000000000000000000) :
    readS s g (ahead ++ w ++ behind) (ahead.length : Int) = (x, (ahead.length : Int) + (w.length : Int), 0) ∧ farB x = false ∧ ¬ (g = false ∧ x < 0) := by
  unfold tailS at h
  split at h
  · have := (Prod.mk.inj h).2
    omega
  rename_i hx
  have hf : farB x = false := by rw [← Bool.not_eq_true]; intro h; exact hx (.inl h)
  have hr := far_no hf
  refine ⟨?_, hf, fun h => hx (.inr h)⟩
  unfold readS
  rcases hs with rfl | hs
  · rw [if_pos rfl] at h
    rw [if_neg (by omega)]
    split at h
    · rename_i hg
      obtain rfl := (Prod.mk.inj h).1
      rw [if_pos hg, readS_back x (by omega) (by omega) ahead behind]
      rfl
    · rename_i hg
      obtain rfl := (Prod.mk.inj h).1
      rw [if_neg hg, readU_back x (by omega) (by omega) ahead behind]
      rfl
  · rw [if_neg (by omega)] at h
    split at h
    · rename_i hfit
      obtain rfl := (Prod.mk.inj h).1
      rw [if_pos (by omega), fix_back s g x hs hfit (by omega) ahead behind, leB_length]
      have : wrap64 ((ahead.length : Int) + s) = (ahead.length : Int) + s := by unfold wrap64; omega
      rw [this]
      have : ((s.toNat : Nat) : Int) = s := by omega
      rw [this]
    · have := (Prod.mk.inj h).2
      omega
/-- Get undoes Put. -/
theorem get_put (s : Int) (g : Bool) (q v at_ data : Int) (hs : s = 0 ∨ s = 2 ∨ s = 4 ∨ s = 8) (w : List Int) (h : putS s g q v at_ data = (w, 0)) (ahead behind : List Int) (hal : ahead.length ≤ 1000000000000000000) (a3 : Int) (ha3 : a3 + ahead.length = at_) (h3 : farB a3 = false) :
    getS s g q (ahead ++ w ++ behind) (ahead.length : Int) a3 data = (v, (ahead.length : Int) + (w.length : Int), 0) := by
  unfold putS at h
  split at h
  · have := (Prod.mk.inj h).2
    omega
  rename_i hn
  have hv : farB v = false := by rw [← Bool.not_eq_true]; intro h; exact hn (.inl h)
  have ha : farB at_ = false := by rw [← Bool.not_eq_true]; intro h; exact hn (.inr (.inl h))
  have hd : farB data = false := by rw [← Bool.not_eq_true]; intro h; exact hn (.inr (.inr h))
  obtain ⟨h4, h5, h6⟩ := readS_at s g _ hs w h ahead behind (by omega)
  have rv := far_no hv
  have ra := far_no ha
  have rd_ := far_no hd
  have r3 := far_no h3
  have r5 := far_no h5
  unfold getS
  rw [if_neg (by rw [h3, hd]; decide), h4]
  unfold endS
  simp only
  rw [if_pos trivial, if_neg (by rw [h5]; intro hh; rcases hh with hh | hh; cases hh; exact h6 hh)]
  have e1 : wrap64 (a3 + (ahead.length : Int)) = at_ := by unfold wrap64; omega
  rw [e1]
  have e2 : wrap64 (wrap64 (v - offV q at_ data) + offV q at_ data) = v := by
    have : -1152921504606846976 ≤ offV q at_ data ∧ offV q at_ data ≤ 1152921504606846976 := by
      unfold offV
      split
      · omega
      · split <;> omega
    unfold wrap64
    omega
  rw [e2, hv]
  rfl
end Go.Proofs.Ytfgfnflhdabmcaa.EhB
end
section
namespace Go.Proofs.Ytfgfnflhdabmcaa.EhB
open Go.RowKit Go.Proofs.Ytfgfnflhdabmcaa.G Go.Proofs.YtfgfnflhdabmcaaW.PrintWords Go.Proofs.YtfgfnflhdabmcaaW.PrintLast Go.Proofs.YtfgfnflhdabmcaaW.PrintMore Go.Proofs.Ytfgfnflhdabmcaa.Bit Go.Proofs.Ytfgfnflhdabmcaa.Leb Go.Proofs.Ytfgfnflhdabmcaa.Eh Go.Proofs.Ytfgfnflhdabmcaa.EhOf
open Go.Proofs.Ytfgfnflhdabmcaa.EhRd (gR opsV cieV fdeV lookI lookI_cons trim readR finV)
open Go.Proofs.Ytfgfnflhdabmcaa.CfaRd (uR sR)
open Go.Proofs.Ytfgfnflhdabmcaa.CfaB (U)
open Go.Proofs.Ytfgfnflhdabmcaa.Cfa (opl)
abbrev Byte (l : List Int) : Prop := ∀ b ∈ l, 0 ≤ b ∧ b ≤ 255
theorem byte_app {a b : List Int} (ha : Byte a) (hb : Byte b) : Byte (a ++ b) := fun x hx => (List.mem_append.1 hx).elim (ha x) (hb x)
theorem byte_zeros (z : Nat) : Byte (List.replicate z 0) := fun x hx => by rw [List.eq_of_mem_replicate hx]; decide
theorem byte_low (n : Int) : Byte (low4 n) := leB_range _ _
theorem byte_head (e : Int) : Byte (headB e) := by
  intro x hx
  simp only [headB, List.mem_cons, List.not_mem_nil, or_false] at hx
  omega
theorem byte_tail {s : Int} {g : Bool} {x : Int} {w : List Int} (h : tailS s g x = (w, 0)) : Byte w := by
  unfold tailS at h
  split at h
  · have := (Prod.mk.inj h).2; omega
  split at h
  · split at h
    · obtain rfl := (Prod.mk.inj h).1
      exact slebL_range _ _ rfl
    · obtain rfl := (Prod.mk.inj h).1
      exact ulebL_range _
  · split at h
    · obtain rfl := (Prod.mk.inj h).1
      exact leB_range _ _
    · have := (Prod.mk.inj h).2; omega
theorem pV_good {a0 v at_ : Int} (h : (pV a0 v at_).2 = 0) : (ofF a0).2.2.2 = true ∧ putS (ofF a0).1 (ofF a0).2.1 (ofF a0).2.2.1 v at_ 0 = ((pV a0 v at_).1, 0) := by
  unfold pV at h ⊢
  by_cases c : (ofF a0).2.2.2 = true
  · rw [if_pos c] at h ⊢
    exact ⟨c, Prod.ext rfl h⟩
  · rw [if_neg c] at h
    cases h
theorem byte_put {a0 v at_ : Int} (h : (pV a0 v at_).2 = 0) : Byte (pV a0 v at_).1 := by
  have h1 := (pV_good h).2
  unfold putS at h1
  split at h1
  · have := (Prod.mk.inj h1).2; omega
  · exact byte_tail h1
/-- four bytes, read -/
theorem gR_low (n : Int) (h0 : 0 ≤ n) (h1 : n < 4294967296) (ahead behind : List Int) (hb : Byte (ahead ++ low4 n ++ behind)) (hl : (ahead ++ low4 n ++ behind).length ≤ 9223372036854775807) : gR (ahead ++ low4 n ++ behind) (ahead.length : Int) = some n := by
  have h2 := fix_back 4 false n (.inr (.inl rfl)) (by unfold fitsV; rw [if_neg (by decide), if_pos rfl, if_neg (by decide), decide_eq_true_eq]; omega) (by omega) ahead behind
  rw [show (4 : Int).toNat = 4 from rfl, show leB (n % 18446744073709551616) 4 = low4 n from rfl] at h2
  unfold gR
  rw [get_f _ _ _ false hb hl 12 (by omega), h2]
  rfl
theorem gR_low0 (n : Int) (h0 : 0 ≤ n) (h1 : n < 4294967296) (behind : List Int) (hb : Byte (low4 n ++ behind)) (hl : (low4 n ++ behind).length ≤ 9223372036854775807) : gR (low4 n ++ behind) 0 = some n := gR_low n h0 h1 [] behind hb hl
theorem low4_0 : low4 0 = [0, 0, 0, 0] := by decide
theorem U_1 : U 1 = [1] := by decide +kernel
theorem U_16 : U 16 = [16] := by decide +kernel
theorem U_0 : U 0 = [0] := by decide +kernel
theorem S_8 : slebL (-8) = [120] := by rw [slebL_small (by decide)]; decide
/-- a common entry's record, read -/
theorem cie_back (enc : Int) (ho : (ofF enc).2.2.2 = true) (ops : List S105) (hl : ops.length ≤ 3992) (hm : May (opl ops)) (z : Nat) (hz : z ≤ 8) :
    gR (headB enc ++ wB ops ++ List.replicate z 0) 0 = some 0 ∧ cieV (headB enc ++ wB ops ++ List.replicate z 0) = some ⟨enc, trim ops⟩ := by
  have hr : 0 ≤ enc ∧ enc ≤ 255 := by
    unfold ofF at ho
    split at ho
    · cases ho
    · omega
  have hby : Byte (headB enc ++ wB ops ++ List.replicate z 0) := byte_app (byte_app (byte_head _) (wB_range (by omega) hm)) (byte_zeros _)
  have hwl := wB_le (l := ops) (by omega)
  have hlen : (headB enc ++ wB ops ++ List.replicate z 0).length = 13 + (wB ops).length + z := by
    simp only [List.length_append, List.length_replicate]
    rfl
  have hmod : enc % 256 = enc := by omega
  have he : headB enc ++ wB ops ++ List.replicate z 0 = [0, 0, 0, 0, 1, 122, 82, 0, 1, 120, 16, 1, enc] ++ (wB ops ++ List.replicate z 0) := by
    rw [List.append_assoc, headB, hmod]
  obtain ⟨rest, hrest⟩ : ∃ r, r = wB ops ++ List.replicate z 0 := ⟨_, rfl⟩
  refine ⟨?_, ?_⟩
  · have h := gR_low0 0 (by omega) (by omega) ([1, 122, 82, 0, 1, 120, 16, 1, enc] ++ rest) (by rw [low4_0, hrest]; rw [he] at hby; exact hby) (by rw [low4_0, hrest]; rw [he] at hlen; simp only [List.length_append, List.length_cons, List.length_nil] at hlen ⊢; omega)
    rw [low4_0, hrest] at h
    rw [he]
    exact h
  · rw [he, ← hrest] at hlen ⊢
    have u1 : uR ([0, 0, 0, 0, 1, 122, 82, 0, 1, 120, 16, 1, enc] ++ rest) 8 = some (1, 9) := by
      have h := uR_at 1 (by omega) (by omega) [0, 0, 0, 0, 1, 122, 82, 0] ([120, 16, 1, enc] ++ rest) _ rfl _ rfl
      rw [U_1] at h
      exact h
    have u2 : sR ([0, 0, 0, 0, 1, 122, 82, 0, 1, 120, 16, 1, enc] ++ rest) 9 = some (-8, 10) := by
      have h := sR_at (-8) (by omega) (by omega) [0, 0, 0, 0, 1, 122, 82, 0, 1] ([16, 1, enc] ++ rest) _ rfl _ rfl
      rw [S_8] at h
      exact h
    have u3 : uR ([0, 0, 0, 0, 1, 122, 82, 0, 1, 120, 16, 1, enc] ++ rest) 10 = some (16, 11) := by
      have h := uR_at 16 (by omega) (by omega) [0, 0, 0, 0, 1, 122, 82, 0, 1, 120] ([1, enc] ++ rest) _ rfl _ rfl
      rw [U_16] at h
      exact h
    have u4 : uR ([0, 0, 0, 0, 1, 122, 82, 0, 1, 120, 16, 1, enc] ++ rest) 11 = some (1, 12) := by
      have h := uR_at 1 (by omega) (by omega) [0, 0, 0, 0, 1, 122, 82, 0, 1, 120, 16] ([enc] ++ rest) _ rfl _ rfl
      rw [U_1] at h
      exact h
    have u5 : rd ([0, 0, 0, 0, 1, 122, 82, 0, 1, 120, 16, 1, enc] ++ rest) 12 = enc := rfl
    have u6 : ([0, 0, 0, 0, 1, 122, 82, 0, 1, 120, 16, 1, enc] ++ rest).drop ((12 : Int).toNat + 1) = rest := rfl
    have u7 := opsV_wB ops hl hm z hz
    rw [← hrest] at u7
    unfold cieV
    rw [if_pos ⟨by omega, by omega, rfl⟩, u1, Option.bind_some, u2, Option.bind_some, u3, Option.bind_some, u4, Option.bind_some]
    simp only
    rw [u5, u6, if_pos ⟨trivial, trivial, trivial, trivial, by decide, by omega, hr.1, hr.2, ho⟩, u7, Option.bind_some, trim_nops]
/-- a function's entry's record, read -/
theorem fde_back (a2 : Int) (at_ first : Nat) (ha : 0 ≤ a2 ∧ a2 ≤ 576460752303423488) (hat : at_ ≤ 1048576) (hfi : first ≤ at_) (cs : List S69) (pm : List (Int × Int)) (ci : Int) (hci : 0 ≤ ci ∧ ci < cs.length) (enc : Int) (henc : (rd_T69 cs ci).f0 = enc) (hlook : lookI pm (first : Int) = some ci)
    (y : S46) (hp : (pV enc y.f1 (a2 + at_ + 8)).2 = 0) (hq : (pV (e15 enc) y.f2 0).2 = 0) (hl : y.f3.length ≤ 3992) (hm : May (opl y.f3)) (z : Nat) (hz : z ≤ 8) :
    gR (low4 ((at_ : Int) + 4 - first) ++ (pV enc y.f1 (a2 + at_ + 8)).1 ++ (pV (e15 enc) y.f2 0).1 ++ [0] ++ wB y.f3 ++ List.replicate z 0) 0 = some ((at_ : Int) + 4 - first) ∧
    fdeV a2 cs pm ((at_ : Int) + 4) ((at_ : Int) + 4 - first) (low4 ((at_ : Int) + 4 - first) ++ (pV enc y.f1 (a2 + at_ + 8)).1 ++ (pV (e15 enc) y.f2 0).1 ++ [0] ++ wB y.f3 ++ List.replicate z 0) = some ⟨ci, y.f1, y.f2, trim y.f3⟩ := by
  have bp := byte_put hp
  have bq := byte_put hq
  have lp := pV_le enc y.f1 (a2 + at_ + 8)
  have lq := pV_le (e15 enc) y.f2 0
  obtain ⟨op, hp2⟩ := pV_good hp
  obtain ⟨oq, hq2⟩ := pV_good hq
  have sp := ofF_size op
  have sq := ofF_size oq
  generalize (pV enc y.f1 (a2 + at_ + 8)).1 = p at *
  generalize (pV (e15 enc) y.f2 0).1 = q at *
  have hwl := wB_le (l := y.f3) (by omega)
  have hby : Byte (low4 ((at_ : Int) + 4 - first) ++ p ++ q ++ [0] ++ wB y.f3 ++ List.replicate z 0) := byte_app (byte_app (byte_app (byte_app (byte_app (byte_low _) bp) bq) (by intro x hx; rw [List.mem_singleton.1 hx]; decide)) (wB_range (by omega) hm)) (byte_zeros _)
  have hlen : (low4 ((at_ : Int) + 4 - first) ++ p ++ q ++ [0] ++ wB y.f3 ++ List.replicate z 0).length = 4 + p.length + q.length + 1 + (wB y.f3).length + z := by
    simp only [List.length_append, List.length_replicate, low4_length, List.length_singleton]
  have h4 := low4_length ((at_ : Int) + 4 - first)
  generalize hid : low4 ((at_ : Int) + 4 - first) = i4 at *
  refine ⟨?_, ?_⟩
  · have h := gR_low0 ((at_ : Int) + 4 - first) (by omega) (by omega) (p ++ q ++ [0] ++ wB y.f3 ++ List.replicate z 0) (by rw [hid]; simp only [← List.append_assoc]; exact hby) (by rw [hid]; simp only [← List.append_assoc]; omega)
    rw [hid] at h
    simp only [← List.append_assoc] at h
    exact h
  · have e1 : wrap64 ((at_ : Int) + 4 - ((at_ : Int) + 4 - first)) = (first : Int) := by unfold wrap64; omega
    have e2 : wrap64 (a2 + ((at_ : Int) + 4)) = a2 + at_ + 4 := by unfold wrap64; omega
    have g1 : EhRd.getV (i4 ++ p ++ q ++ [0] ++ wB y.f3 ++ List.replicate z 0) 4 enc (a2 + at_ + 4) = some (y.f1, 4 + (p.length : Int)) := by
      have h := get_put _ _ _ y.f1 _ 0 sp.2 p hp2 i4 (q ++ [0] ++ wB y.f3 ++ List.replicate z 0) (by omega) (a2 + at_ + 4) (by omega) (by unfold farB; simp; omega)
      rw [h4] at h
      simp only [← List.append_assoc] at h
      unfold EhRd.getV
      rw [prog_get sp.1 sp.2 _ hby (by omega) _ _ _ 60 (by omega)]
      rw [show ((4 : Nat) : Int) = 4 from rfl] at h
      rw [h]
      rfl
    have g2 : EhRd.getV (i4 ++ p ++ q ++ [0] ++ wB y.f3 ++ List.replicate z 0) (4 + (p.length : Int)) (e15 enc) 0 = some (y.f2, 4 + (p.length : Int) + (q.length : Int)) := by
      have hrel : (ofF (e15 enc)).2.2.1 = 0 := by
        have h5 : 0 ≤ e15 enc ∧ e15 enc < 16 := by
          have he : 0 ≤ enc ∧ enc ≤ 255 := by
            unfold ofF at op
            split at op
            · cases op
            · omega
          have := (bits_at enc he.1 he.2).2
          unfold e15
          rw [this]
          omega
        unfold ofF
        rw [if_neg (by omega)]
        split
        · rfl
        · show e15 enc - e15 enc % 16 = 0
          omega
      have hq3 : putS (ofF (e15 enc)).1 (ofF (e15 enc)).2.1 (ofF (e15 enc)).2.2.1 y.f2 (4 + (p.length : Int)) 0 = (q, 0) := by
        rw [← hq2]
        unfold putS
        have hf : farB (4 + (p.length : Int)) = false := by unfold farB; simp; omega
        have hf0 : farB 0 = false := by decide
        rw [hf, hf0, hrel]
        rfl
      have h := get_put _ _ _ y.f2 _ 0 sq.2 q hq3 (i4 ++ p) ([0] ++ wB y.f3 ++ List.replicate z 0) (by rw [List.length_append]; omega) 0 (by rw [List.length_append, h4]; omega) (by decide)
      rw [List.length_append, h4] at h
      simp only [← List.append_assoc] at h
      unfold EhRd.getV
      rw [prog_get sq.1 sq.2 _ hby (by omega) _ _ _ 60 (by omega)]
      rw [show ((4 + p.length : Nat) : Int) = 4 + (p.length : Int) from by omega] at h
      rw [h]
      rfl
    have g3 : uR (i4 ++ p ++ q ++ [0] ++ wB y.f3 ++ List.replicate z 0) (4 + (p.length : Int) + (q.length : Int)) = some (0, 4 + (p.length : Int) + (q.length : Int) + 1) := by
      have h := uR_at 0 (by omega) (by omega) (i4 ++ p ++ q) (wB y.f3 ++ List.replicate z 0) _ rfl (4 + (p.length : Int) + (q.length : Int)) (by rw [List.length_append, List.length_append, h4]; omega)
      rw [U_0] at h
      simp only [← List.append_assoc] at h
      exact h
    have g4 : (i4 ++ p ++ q ++ [0] ++ wB y.f3 ++ List.replicate z 0).drop (4 + (p.length : Int) + (q.length : Int) + 1).toNat = wB y.f3 ++ List.replicate z 0 := by
      rw [List.append_assoc (i4 ++ p ++ q ++ [0])]
      exact List.drop_left' (by simp only [List.length_append, h4, List.length_singleton]; omega)
    unfold fdeV
    rw [e1, hlook, Option.bind_some, if_pos hci, henc, e2, g1, Option.bind_some]
    simp only
    rw [show Go.bits .and .i64 enc 15 = e15 enc from rfl, g2, Option.bind_some]
    simp only
    rw [g3, Option.bind_some]
    simp only
    rw [if_pos ⟨trivial, by omega, by rw [hlen]; omega⟩, g4, opsV_wB y.f3 hl hm z hz, Option.bind_some, trim_nops]
end Go.Proofs.Ytfgfnflhdabmcaa.EhB
end
