/- symtab.Read's reader. -/
import Derived.Test.YtejdnanhnkjaoaaBits
import Derived.Test.YtejdnanhnkjaoaaGfM
import Derived.Great.Frames
import Derived.Recover
namespace Go.Proofs.Ytejdnanhnkjaoaa.SymR
set_option linter.unusedVariables false
set_option linter.unusedSimpArgs false
open Go.RowKit Go.Proofs.Ytejdnanhnkjaoaa.G Go.Proofs.YtejdnanhnkjaoaaW.PrintWords Go.Proofs.YtejdnanhnkjaoaaW.PrintLast Go.Proofs.YtejdnanhnkjaoaaW.PrintMore
open Go.Proofs.Ytejdnanhnkjaoaa.Bit
/-- A reader of symbols in block g. -/
def Rd (w : World) (g : Nat) (A0 : Option Addr) (n0 c0 : Nat) (A1 : Option Addr) (n1 c1 : Nat) (A2 : Option Addr) (n2 c2 : Nat) : Prop := w.heap[g]? = some (.cells #[.slice A0 n0 c0, .slice A1 n1 c1, .slice A2 n2 c2] 79 (0, 0))
/-- the panic that gives up -/
def gaveUp : List PanicEntry := [{ v := .iface 29 (.int .i64 80), recovered := false }]
theorem fail_no (g : Nat) (w : World) : Calls Try.prog 43 #[.pointer (some ⟨g, 0, none⟩), .bool false] w fun e w' => e = .returned (.tuple #[]) ∧ w' = w := by
  go_enter Try.func43, Try.ntmps43
  go_wp2
  go_end0
  exact ⟨rfl, rfl⟩
theorem fail_yes (g : Nat) (w : World) : Calls Try.prog 43 #[.pointer (some ⟨g, 0, none⟩), .bool true] w fun e w' => e = .panicked gaveUp ∧ w' = w := by
  have hp : ∀ W : World, Sem.run Try.prog (Instr.panic (.iface 29 (.int .i64 80))) W = .halt (.panic (.iface 29 (.int .i64 80))) W := fun _ => rfl
  go_enter Try.func43, Try.ntmps43
  go_wp2
  exact ⟨rfl, rfl, rfl⟩
set_option maxRecDepth 100000 in
/-- 'number': the bytes are there, and the number is not below 0. -/
theorem number_ok (w : World) (g : Nat) (A0 : Option Addr) (c0 : Nat) (l0 : List Int) (A1 : Option Addr) (n1 c1 : Nat) (A2 : Option Addr) (n2 c2 : Nat) (hC : Kd.C (Kd.int .u8) w A0 l0.length l0) (hc : l0.length ≤ c0) (h : Rd w g A0 l0.length c0 A1 n1 c1 A2 n2 c2) (at_ size : Int) (k : Nat) (n : Int) (hr : leb_Get.f k l0 at_ size false = some (n, 0)) (hn : 0 ≤ n) :
    Calls Try.prog 50 #[.pointer (some ⟨g, 0, none⟩), .int .i64 at_, .int .i64 size] w fun e w' => e = .returned (.int .i64 n) ∧ Drawn0 w w' := by
  have HC := Aside0.mk hC
  have HCC := Aside0.mk hc
  have HR := Aside0.mk hr
  have H := Aside0.mk h
  have f0 : w.cell? ⟨g, 0, none⟩ = some (.slice A0 l0.length c0) := (blk_cell h 0).trans rfl
  have d0 : decide (n < 0) = false := decide_eq_false (by omega)
  clear hC hc hr h hn
  go_enter Try.func50, Try.ntmps50
  go_wp2_with fail
  refine (leb_Get.calls k A0 c0 l0 at_ size false n 0 _ HC.out HCC.out HR.out).mono ?_
  rintro e w1 ⟨rfl, hd⟩
  have HD := Aside0.mk hd
  clear hd
  go_wp2_with fail
  refine (fail_no g w1).mono ?_
  rintro e w2 ⟨rfl, rfl⟩
  go_wp2
  go_ret
  exact ⟨rfl, HD.out⟩
set_option maxRecDepth 100000 in
theorem number_bad (w : World) (g : Nat) (A0 : Option Addr) (c0 : Nat) (l0 : List Int) (A1 : Option Addr) (n1 c1 : Nat) (A2 : Option Addr) (n2 c2 : Nat) (hC : Kd.C (Kd.int .u8) w A0 l0.length l0) (hc : l0.length ≤ c0) (h : Rd w g A0 l0.length c0 A1 n1 c1 A2 n2 c2) (at_ size : Int) (k : Nat) (n er : Int) (hr : leb_Get.f k l0 at_ size false = some (n, er)) (hn : er ≠ 0 ∨ n < 0) :
    Calls Try.prog 50 #[.pointer (some ⟨g, 0, none⟩), .int .i64 at_, .int .i64 size] w fun e w' => e = .panicked gaveUp ∧ Drawn0 w w' := by
  have HC := Aside0.mk hC
  have HCC := Aside0.mk hc
  have HR := Aside0.mk hr
  have H := Aside0.mk h
  have f0 : w.cell? ⟨g, 0, none⟩ = some (.slice A0 l0.length c0) := (blk_cell h 0).trans rfl
  clear hC hc hr h
  by_cases ce : er = 0
  · subst ce
    have d0 : decide (n < 0) = true := decide_eq_true (by omega)
    clear hn
    go_enter Try.func50, Try.ntmps50
    go_wp2_with fail
    refine (leb_Get.calls k A0 c0 l0 at_ size false n 0 _ HC.out HCC.out HR.out).mono ?_
    rintro e w1 ⟨rfl, hd⟩
    have HD := Aside0.mk hd
    clear hd
    go_wp2_with fail
    refine (fail_yes g w1).mono ?_
    rintro e w2 ⟨rfl, rfl⟩
    exact ⟨rfl, rfl, HD.out⟩
  · have d0 : (er == 0) = false := beq_eq_false_iff_ne.mpr ce
    have d1 : (er != 0) = true := bne_iff_ne.mpr ce
    clear hn
    go_enter Try.func50, Try.ntmps50
    go_wp2_with fail
    refine (leb_Get.calls k A0 c0 l0 at_ size false n er _ HC.out HCC.out HR.out).mono ?_
    rintro e w1 ⟨rfl, hd⟩
    have HD := Aside0.mk hd
    clear hd
    go_wp2_with fail
    refine (fail_yes g w1).mono ?_
    rintro e w2 ⟨rfl, rfl⟩
    exact ⟨rfl, rfl, HD.out⟩
theorem sym_size : (Try.prog.info? 58).map (·.size) = some 6 := by kernel_rfl
theorem sym_row {W : World} {b : Nat} {x0 x1 x2 x3 x4 x5 : Value} (h : W.heap[b]? = some (.cells #[x0, x1, x2, x3, x4, x5] 58 (0, 0))) (v0 v1 v2 v3 v4 v5 : Value) : ((((((W.setCell ⟨b, 0, none⟩ v0).setCell ⟨b, 1, none⟩ v1).setCell ⟨b, 2, none⟩ v2).setCell ⟨b, 3, none⟩ v3).setCell ⟨b, 4, none⟩ v4).setCell ⟨b, 5, none⟩ v5).heap[b]? = some (.cells #[v0, v1, v2, v3, v4, v5] 58 (0, 0)) := by
  have h0 : (W.setCell ⟨b, 0, none⟩ v0).heap[b]? = some (.cells #[v0, x1, x2, x3, x4, x5] 58 (0, 0)) := blk_put h 0 _ rfl
  have h1 : ((W.setCell ⟨b, 0, none⟩ v0).setCell ⟨b, 1, none⟩ v1).heap[b]? = some (.cells #[v0, v1, x2, x3, x4, x5] 58 (0, 0)) := blk_put h0 1 _ rfl
  have h2 : (((W.setCell ⟨b, 0, none⟩ v0).setCell ⟨b, 1, none⟩ v1).setCell ⟨b, 2, none⟩ v2).heap[b]? = some (.cells #[v0, v1, v2, x3, x4, x5] 58 (0, 0)) := blk_put h1 2 _ rfl
  have h3 : ((((W.setCell ⟨b, 0, none⟩ v0).setCell ⟨b, 1, none⟩ v1).setCell ⟨b, 2, none⟩ v2).setCell ⟨b, 3, none⟩ v3).heap[b]? = some (.cells #[v0, v1, v2, v3, x4, x5] 58 (0, 0)) := blk_put h2 3 _ rfl
  have h4 : (((((W.setCell ⟨b, 0, none⟩ v0).setCell ⟨b, 1, none⟩ v1).setCell ⟨b, 2, none⟩ v2).setCell ⟨b, 3, none⟩ v3).setCell ⟨b, 4, none⟩ v4).heap[b]? = some (.cells #[v0, v1, v2, v3, v4, x5] 58 (0, 0)) := blk_put h3 4 _ rfl
  have h5 : ((((((W.setCell ⟨b, 0, none⟩ v0).setCell ⟨b, 1, none⟩ v1).setCell ⟨b, 2, none⟩ v2).setCell ⟨b, 3, none⟩ v3).setCell ⟨b, 4, none⟩ v4).setCell ⟨b, 5, none⟩ v5).heap[b]? = some (.cells #[v0, v1, v2, v3, v4, v5] 58 (0, 0)) := blk_put h4 5 _ rfl
  exact h5
theorem sym_below {w W : World} {B b : Nat} (h : Below B w W) (hb : B ≤ b) (v0 v1 v2 v3 v4 v5 : Value) : Below B w ((((((W.setCell ⟨b, 0, none⟩ v0).setCell ⟨b, 1, none⟩ v1).setCell ⟨b, 2, none⟩ v2).setCell ⟨b, 3, none⟩ v3).setCell ⟨b, 4, none⟩ v4).setCell ⟨b, 5, none⟩ v5) := (Below.setCell (Below.setCell (Below.setCell (Below.setCell (Below.setCell (Below.setCell h hb _) hb _) hb _) hb _) hb _) hb _)
set_option maxHeartbeats 1000000 in
set_option maxRecDepth 100000 in
theorem symbol_ok (w : World) (g : Nat) (A0 : Option Addr) (c0 : Nat) (l0 : List Int) (A1 : Option Addr) (c1 : Nat) (l1 : List Int) (A2 : Option Addr) (c2 : Nat) (l2 : List ByteArray) (hC : Kd.C (Kd.int .u8) w A0 l0.length l0) (hc : l0.length ≤ c0) (hC1 : Kd.C (Kd.int .u8) w A1 l1.length l1) (hc1 : l1.length ≤ c1) (hC2 : Kd.C Kd.string w A2 l2.length l2) (h : Rd w g A0 l0.length c0 A1 l1.length c1 A2 l2.length c2) (at_ : Int) (ha0 : 0 ≤ at_) (ha1 : at_ ≤ 2097152) (k k2 : Nat) (a info place val siz : Int) (name : ByteArray)
    (h1 : leb_Get.f k l0 at_ 4 false = some (a, 0) ∧ 0 ≤ a) (h2 : symtab_At.f k2 l1 a = some (name, 0)) (h3 : leb_Get.f k l0 (at_ + 4) 1 false = some (info, 0) ∧ 0 ≤ info) (h4 : leb_Get.f k l0 (at_ + 6) 2 false = some (place, 0) ∧ 0 ≤ place) (h5 : leb_Get.f k l0 (at_ + 8) 8 false = some (val, 0) ∧ 0 ≤ val) (h6 : leb_Get.f k l0 (at_ + 16) 8 false = some (siz, 0) ∧ 0 ≤ siz) (hp : place = 0 ∨ place = 65521 ∨ place ≤ l2.length) (hinf : info ≤ 65535) (hpl : place ≤ 9223372036854775807) (sec : ByteArray) (hsec : sec = if place = 0 then ⟨#[]⟩ else if place = 65521 then ⟨#[42]⟩ else rdOf ByteArray.empty l2 (place - 1)) :
    Calls Try.prog 44 #[.pointer (some ⟨g, 0, none⟩), .int .i64 at_] w fun e w' => e = .returned (.agg #[.string name, .string sec, .int .i64 val, .int .i64 siz, .int .i64 (info / 16), .int .i64 (info % 16)]) ∧ Below w.heap.size w w' := by
  have HC := Aside0.mk hC
  have HCC := Aside0.mk hc
  have HC1 := Aside0.mk hC1
  have HCC1 := Aside0.mk hc1
  have HC2 := Aside0.mk hC2
  have H := Aside0.mk h
  have H1 := Aside0.mk h1
  have H2 := Aside0.mk h2
  have H3 := Aside0.mk h3
  have H4 := Aside0.mk h4
  have H5 := Aside0.mk h5
  have H6 := Aside0.mk h6
  have HP := Aside0.mk hp
  have HSEC := Aside0.mk hsec
  have wd : wrap64 (info.tdiv 16) = info / 16 := by rw [Int.tdiv_eq_ediv_of_nonneg h3.2]; have := h3.2; unfold wrap64; omega
  have wm : info.tmod 16 = info % 16 := Int.tmod_eq_emod_of_nonneg h3.2
  have wpl : wrap64 (place - 1) = place - 1 := by have := h4.2; unfold wrap64; omega
  have w4 : wrap64 (at_ + 4) = at_ + 4 := by unfold wrap64; omega
  have w6 : wrap64 (at_ + 6) = at_ + 6 := by unfold wrap64; omega
  have w8 : wrap64 (at_ + 8) = at_ + 8 := by unfold wrap64; omega
  have w16 : wrap64 (at_ + 16) = at_ + 16 := by unfold wrap64; omega
  have f1 : w.cell? ⟨g, 1, none⟩ = some (.slice A1 l1.length c1) := (blk_cell h 1).trans rfl
  have hgl := blk_lt h
  have hne : w.heap.size ≠ g := Nat.ne_of_gt hgl
  have hb0 := below_alloc (Below.refl w.heap.size w) (.cells #[.string ⟨#[]⟩, .string ⟨#[]⟩, .int .i64 0, .int .i64 0, .int .i64 0, .int .i64 0] 58)
  have HB0 := Aside0.mk hb0
  have f2 : (w.alloc (.cells #[.string ⟨#[]⟩, .string ⟨#[]⟩, .int .i64 0, .int .i64 0, .int .i64 0, .int .i64 0] 58)).cell? ⟨g, 1, none⟩ = some (.slice A1 l1.length c1) := (blk_cell (blk_below h hb0) 1).trans rfl
  clear hC hc hC1 hc1 hC2 h h1 h2 h3 h4 h5 h6 hp ha0 ha1 hb0 hinf hpl hsec
  go_enter Try.func44, Try.ntmps44
  go_wp2
  refine start_ (n := 13) (S := fun u => u.cell? ⟨g, 1, none⟩ = some (.slice A1 l1.length c1)) (ds := [7]) #[false, false, false, false, false, false, false, false, false, false, false, false, false] (by kernel_rfl) rfl rfl ?_ (fun hHeld => ?_)
  case refine_1 => exact (by go_simp)
  refine pure_ (i := 0) (N := some 11) (v := ?_) (a' := ?_) #[true, false, false, false, false, false, false, false, false, false, false, false, false] rfl rfl (by kernel_rfl) (fun _ _ _ h => h) (Or.inl ⟨by rfl, ?_⟩) ?_ ?_
  rotate_left
  · intro u
    go_simp
    with_reducible rfl
  rotate_left
  · simp only [Act.put, List.setIfInBounds_toArray, List.set_cons_zero, List.set_cons_succ, i64_w, i32_w]
    rfl
  refine pure_ (i := 1) (N := some 12) (v := ?_) (a' := ?_) #[true, true, false, false, false, false, false, false, false, false, false, false, false] rfl rfl (by kernel_rfl) (fun _ _ _ h => h) (Or.inl ⟨by rfl, ?_⟩) ?_ ?_
  rotate_left
  · intro u
    go_simp
    with_reducible rfl
  rotate_left
  · simp only [Act.put, List.setIfInBounds_toArray, List.set_cons_zero, List.set_cons_succ, i64_w, i32_w]
    rfl
  refine pure_ (i := 2) (N := some 13) (v := ?_) (a' := ?_) #[true, true, true, false, false, false, false, false, false, false, false, false, false] rfl rfl (by kernel_rfl) (fun _ _ _ h => h) (Or.inl ⟨by rfl, ?_⟩) ?_ ?_
  rotate_left
  · intro u
    go_simp
    with_reducible rfl
  rotate_left
  · simp only [Act.put, List.setIfInBounds_toArray, List.set_cons_zero, List.set_cons_succ, i64_w, i32_w]
    rfl
  refine take_ (i := 3) (N := some 14) (v := ?_) (a' := ?_) #[true, true, true, true, false, false, false, false, false, false, false, false, false] rfl rfl (by kernel_rfl) (fun _ _ _ h => h) (Or.inl ⟨by rfl, ?_⟩) hHeld ?_ ?_
  rotate_left
  · rintro u s0
    go_simp
    with_reducible rfl
  rotate_left
  · simp only [Act.put, List.setIfInBounds_toArray, List.set_cons_zero, List.set_cons_succ, i64_w, i32_w]
    rfl
  refine pure_ (i := 4) (N := some 15) (v := ?_) (a' := ?_) #[true, true, true, true, true, false, false, false, false, false, false, false, false] rfl rfl (by kernel_rfl) (fun _ _ _ h => h) (Or.inl ⟨by rfl, ?_⟩) ?_ ?_
  rotate_left
  · intro u
    go_simp
    with_reducible rfl
  rotate_left
  · simp only [Act.put, List.setIfInBounds_toArray, List.set_cons_zero, List.set_cons_succ, i64_w, i32_w]
    rfl
  refine pure_ (i := 5) (N := some 16) (v := ?_) (a' := ?_) #[true, true, true, true, true, true, false, false, false, false, false, false, false] rfl rfl (by kernel_rfl) (fun _ _ _ h => h) (Or.inl ⟨by rfl, ?_⟩) ?_ ?_
  rotate_left
  · intro u
    go_simp
    with_reducible rfl
  rotate_left
  · simp only [Act.put, List.setIfInBounds_toArray, List.set_cons_zero, List.set_cons_succ, i64_w, i32_w]
    rfl
  refine one_ (i := 6) (N := some 17) #[true, true, true, true, true, true, true, false, false, false, false, false, false] rfl rfl (by kernel_rfl) (by decide) (fun K hK => ?_)
  refine goes_ Try.func50 (by kernel_rfl) rfl #[.pointer (some ⟨g, 0, none⟩), .int .i64 at_, .int .i64 4] (by rfl) rfl rfl (by (try simp only [List.map_toArray, List.map_cons, List.map_nil]); first | done | rfl) ?_
  refine (number_ok _ g A0 c0 l0 A1 l1.length c1 A2 l2.length c2 (Kd.C_below HC.out (below_drew HB0.out)) HCC.out (blk_below H.out (below_drew HB0.out)) at_ 4 k a H1.out.1 H1.out.2).mono ?_
  rintro e w1 ⟨rfl, hd⟩
  refine ⟨_, rfl, ?_⟩
  have hb1 := below_step (below_drew HB0.out) hd.below
  have hr1 : (w.alloc (.cells #[.string ⟨#[]⟩, .string ⟨#[]⟩, .int .i64 0, .int .i64 0, .int .i64 0, .int .i64 0] 58)).grownBy w1 none := grown_of_below (below_step (below_drew (Below.refl _ _)) hd.below) none
  have HB1 := Aside0.mk hb1
  have HR1 := Aside0.mk (blk_grown (blk_new w _) hr1 (Option.some_ne_none _))
  have g1 : w1.cell? ⟨g, 1, none⟩ = some (.slice A1 l1.length c1) := (blk_cell (blk_below H.out hb1) 1).trans rfl
  clear hd hb1 hr1 hHeld
  refine hK.out _ _ g1 (fun hHeld => ?_)
  clear hK K
  refine norm_ (a' := ?_) ?_ ?_
  rotate_left
  · show Act.put _ (some 17) _ = _
    simp only [Act.put, List.setIfInBounds_toArray, List.set_cons_zero, List.set_cons_succ, i64_w, i32_w]
    rfl
  refine last_ (i := 7) (N := some 18) #[true, true, true, true, true, true, true, true, false, false, false, false, false] rfl rfl (by kernel_rfl) (by decide) (fun K hK => ?_)
  refine goes_ Try.func14 (by kernel_rfl) rfl #[.slice A1 l1.length c1, .int .i64 a] (by rfl) rfl rfl (by (try simp only [List.map_toArray, List.map_cons, List.map_nil]); first | done | rfl) ?_
  refine (symtab_At.calls k2 A1 c1 l1 a name 0 _ (Kd.C_below HC1.out HB1.out) HCC1.out H2.out).mono ?_
  rintro e w2 ⟨rfl, hd⟩
  refine ⟨_, rfl, ?_⟩
  have hb2 := below_step HB1.out hd.below
  have HB2 := Aside0.mk hb2
  have HR2 := Aside0.mk (blk_below HR1.out hd.below)
  clear hd hb2 hHeld
  refine hK.out _ _ ?_
  clear hK K
  refine norm_ (a' := ?_) ?_ ?_
  rotate_left
  · show Act.put _ (some 18) _ = _
    simp only [Act.put, List.setIfInBounds_toArray, List.set_cons_zero, List.set_cons_succ, i64_w, i32_w]
    rfl
  refine pure_ (i := 8) (N := some 10) (v := ?_) (a' := ?_) #[true, true, true, true, true, true, true, true, true, false, false, false, false] rfl rfl (by kernel_rfl) (fun _ _ _ h => h) (Or.inl ⟨by rfl, ?_⟩) ?_ ?_
  rotate_left
  · intro u
    go_simp
    with_reducible rfl
  rotate_left
  · simp only [Act.put, List.setIfInBounds_toArray, List.set_cons_zero, List.set_cons_succ, i64_w, i32_w]
    rfl
  refine pure_ (i := 9) (N := some 19) (v := ?_) (a' := ?_) #[true, true, true, true, true, true, true, true, true, true, false, false, false] rfl rfl (by kernel_rfl) (fun _ _ _ h => h) (Or.inl ⟨by rfl, ?_⟩) ?_ ?_
  rotate_left
  · intro u
    go_simp
    with_reducible rfl
  rotate_left
  · simp only [Act.put, List.setIfInBounds_toArray, List.set_cons_zero, List.set_cons_succ, i64_w, i32_w]
    rfl
  refine pure_ (i := 10) (N := some 20) (v := ?_) (a' := ?_) #[true, true, true, true, true, true, true, true, true, true, true, false, false] rfl rfl (by kernel_rfl) (fun _ _ _ h => h) (Or.inl ⟨by rfl, ?_⟩) ?_ ?_
  rotate_left
  · intro u
    go_simp
    with_reducible rfl
  rotate_left
  · simp only [Act.put, List.setIfInBounds_toArray, List.set_cons_zero, List.set_cons_succ, i64_w, i32_w]
    rfl
  refine pure_ (i := 11) (N := some 5) (v := ?_) (a' := ?_) #[true, true, true, true, true, true, true, true, true, true, true, true, false] rfl rfl (by kernel_rfl) (fun _ _ _ h => h) (Or.inl ⟨by rfl, ?_⟩) ?_ ?_
  rotate_left
  · intro u
    go_simp
    with_reducible rfl
  rotate_left
  · simp only [Act.put, List.setIfInBounds_toArray, List.set_cons_zero, List.set_cons_succ, i64_w, i32_w]
    rfl
  refine pure_ (i := 12) (N := some 6) (v := ?_) (a' := ?_) #[true, true, true, true, true, true, true, true, true, true, true, true, true] rfl rfl (by kernel_rfl) (fun _ _ _ h => h) (Or.inl ⟨by rfl, ?_⟩) ?_ ?_
  rotate_left
  · intro u
    go_simp
    with_reducible rfl
  rotate_left
  · simp only [Act.put, List.setIfInBounds_toArray, List.set_cons_zero, List.set_cons_succ, i64_w, i32_w]
    rfl
  refine done_ (by kernel_rfl) ?_
  go_wp2_with fail
  refine (fail_no g _).mono ?_
  rintro e w2' ⟨rfl, rfl⟩
  go_wp2_with fail
  refine (number_ok _ g A0 c0 l0 A1 l1.length c1 A2 l2.length c2 (Kd.C_below HC.out HB2.out) HCC.out (blk_below H.out HB2.out) (at_ + 4) 1 k info H3.out.1 H3.out.2).mono ?_
  rintro e w3 ⟨rfl, hd⟩
  have HB3 := Aside0.mk (below_step HB2.out hd.below)
  have HR3 := Aside0.mk (blk_below HR2.out hd.below)
  clear hd
  go_wp2_with fail
  refine (number_ok _ g A0 c0 l0 A1 l1.length c1 A2 l2.length c2 (Kd.C_below HC.out HB3.out) HCC.out (blk_below H.out HB3.out) (at_ + 6) 2 k place H4.out.1 H4.out.2).mono ?_
  rintro e w4_ ⟨rfl, hd⟩
  have HB4 := Aside0.mk (below_step HB3.out hd.below)
  have HR4 := Aside0.mk (blk_below HR3.out hd.below)
  clear hd
  go_wp2_with fail
  refine (number_ok _ g A0 c0 l0 A1 l1.length c1 A2 l2.length c2 (Kd.C_below HC.out HB4.out) HCC.out (blk_below H.out HB4.out) (at_ + 8) 8 k val H5.out.1 H5.out.2).mono ?_
  rintro e w5 ⟨rfl, hd⟩
  have HB5 := Aside0.mk (below_step HB4.out hd.below)
  have HR5 := Aside0.mk (blk_below HR4.out hd.below)
  clear hd
  go_wp2_with fail
  refine (number_ok _ g A0 c0 l0 A1 l1.length c1 A2 l2.length c2 (Kd.C_below HC.out HB5.out) HCC.out (blk_below H.out HB5.out) (at_ + 16) 8 k siz H6.out.1 H6.out.2).mono ?_
  rintro e w6_ ⟨rfl, hd⟩
  have HB6 := Aside0.mk (below_step HB5.out hd.below)
  have HR6 := Aside0.mk (blk_below HR5.out hd.below)
  clear hd
  have hlo : w.heap.size < w6_.heap.size := blk_lt HR6.out
  have hne6 : w6_.heap.size ≠ w.heap.size := Nat.ne_of_gt hlo
  have hg6 : g < w6_.heap.size := Nat.lt_trans hgl hlo
  have hne7 : w6_.heap.size ≠ g := Nat.ne_of_gt hg6
  have e2 : w6_.cell? ⟨g, 2, none⟩ = some (.slice A2 l2.length c2) := (blk_cell (blk_below H.out HB6.out) 2).trans rfl
  have r0 : w6_.cell? ⟨w.heap.size, 0, none⟩ = some (.string ⟨#[]⟩) := (blk_cell HR6.out 0).trans rfl
  have d0 := blk_frozen HR6.out 0
  have r1 : w6_.cell? ⟨w.heap.size, 1, none⟩ = some (.string ⟨#[]⟩) := (blk_cell HR6.out 1).trans rfl
  have d1 := blk_frozen HR6.out 1
  have r2 : w6_.cell? ⟨w.heap.size, 2, none⟩ = some (.int .i64 0) := (blk_cell HR6.out 2).trans rfl
  have d2 := blk_frozen HR6.out 2
  have r3 : w6_.cell? ⟨w.heap.size, 3, none⟩ = some (.int .i64 0) := (blk_cell HR6.out 3).trans rfl
  have d3 := blk_frozen HR6.out 3
  have r4 : w6_.cell? ⟨w.heap.size, 4, none⟩ = some (.int .i64 0) := (blk_cell HR6.out 4).trans rfl
  have d4 := blk_frozen HR6.out 4
  have r5 : w6_.cell? ⟨w.heap.size, 5, none⟩ = some (.int .i64 0) := (blk_cell HR6.out 5).trans rfl
  have d5 := blk_frozen HR6.out 5
  rcases Classical.em (place = 0) with cp | cp
  · have dp : (place == 0) = true := beq_iff_eq.mpr cp
    obtain rfl := HSEC.out.trans (if_pos cp)
    clear cp
    go_wp2
    exact bodyPost_ret (v := .agg #[.string name, .string ⟨#[]⟩, .int .i64 val, .int .i64 siz, .int .i64 (info / 16), .int .i64 (info % 16)]) (results_single (r := .cell 4 58) rfl (.cell w.heap.size 58 _ (0, 0) _ rfl (blk_alloc (sym_row HR6.out _ _ _ _ _ _) _) Try.underlying58 rfl sym_size .nil)) rfl ⟨rfl, below_alloc (sym_below HB6.out (Nat.le_refl _) _ _ _ _ _ _) _⟩
  · have dp : (place == 0) = false := beq_eq_false_iff_ne.mpr cp
    rcases Classical.em (place = 65521) with cq | cq
    · have dq : (place == 65521) = true := beq_iff_eq.mpr cq
      obtain rfl := (HSEC.out.trans (if_neg cp)).trans (if_pos cq)
      clear cp cq
      go_wp2
      exact bodyPost_ret (v := .agg #[.string name, .string ⟨#[42]⟩, .int .i64 val, .int .i64 siz, .int .i64 (info / 16), .int .i64 (info % 16)]) (results_single (r := .cell 4 58) rfl (.cell w.heap.size 58 _ (0, 0) _ rfl (blk_alloc (sym_row HR6.out _ _ _ _ _ _) _) Try.underlying58 rfl sym_size .nil)) rfl ⟨rfl, below_alloc (sym_below HB6.out (Nat.le_refl _) _ _ _ _ _ _) _⟩
    · have dq : (place == 65521) = false := beq_eq_false_iff_ne.mpr cq
      have hse := (HSEC.out.trans (if_neg cp)).trans (if_neg cq)
      have hpp : 1 ≤ place ∧ place ≤ l2.length := by have := HP.out; have := H4.out.2; omega
      obtain ⟨p1, hp1⟩ : ∃ p1, place - 1 = p1 := ⟨_, rfl⟩
      replace wpl := wpl.trans hp1
      rw [hp1] at hse
      obtain ⟨ad, rfl, hx⟩ := Kd.at_string (Kd.C_below HC2.out (below_alloc HB6.out (.cells #[.string name, .string ⟨#[]⟩, .int .i64 val, .int .i64 siz, .int .i64 (info / 16), .int .i64 (info % 16)] 58))) p1 (by omega) (by omega)
      have dg : decide (place > (l2.length : Int)) = false := decide_eq_false (by omega)
      have dg2 : decide ((l2.length : Int) < place) = false := dg
      have dh : decide (0 ≤ p1) = true := decide_eq_true (by omega)
      have di : decide (p1 < (l2.length : Int)) = true := decide_eq_true (by omega)
      have dj := eq_true (show 0 ≤ p1 by omega)
      have dk := eq_true (show p1 < (l2.length : Int) by omega)
      clear cp cq hpp hp1
      rw [← hse] at hx
      clear hse HSEC
      go_wp2_with fail
      refine (fail_no g _).mono ?_
      rintro e w7 ⟨rfl, rfl⟩
      go_wp2
      exact bodyPost_ret (v := .agg #[.string name, .string sec, .int .i64 val, .int .i64 siz, .int .i64 (info / 16), .int .i64 (info % 16)]) (results_single (r := .cell 4 58) rfl (.cell w.heap.size 58 _ (0, 0) _ rfl (blk_alloc (sym_row HR6.out _ _ _ _ _ _) _) Try.underlying58 rfl sym_size .nil)) rfl ⟨rfl, below_alloc (sym_below HB6.out (Nat.le_refl _) _ _ _ _ _ _) _⟩
theorem read_idle (p q : Addr) (w : World) :
    CallsD Try.prog 42 #[.pointer (some p), .pointer (some q)] .returning w fun e u' w' => e = .returned (.tuple #[]) ∧ u' = .returning ∧ w' = w := by
  refine callsD_of_wpS Try.func42 rfl fun c₀ cs hu => ?_
  apply wpS_seq
  apply wpS_region
  simp [wpOpsS, go_sem, recoverD, hu, Try.ntmps42, Exit.thenS]
  apply wpS_seq
  apply wpS_region
  simp [wpOpsS, go_sem, recoverD, hu, Try.ntmps42, Exit.thenS]
  refine wpS_cond (t := false) (by simp [Act.eval, Array.replicate]) ?_
  simp only [Bool.false_eq_true, if_false]
  refine wpS_of_wp (wp_skip ?_)
  cases c₀
  simp_all [bodyPostS, results, Try.results42]
theorem results2c {fn : Func} {p q : Tmp} {ty ty2 e : TypeId} (h : fn.results = #[.cell p ty, .cell q ty2]) (tmps : Array Value) (P : Program) (w : World) (a b : Addr) (x y : Value) (hp : tmps.getD p undef = .pointer (some a)) (hq : tmps.getD q undef = .pointer (some b)) (hu : P.underlying ty = some (.slice e)) (hu2 : P.underlying ty2 = some (.int .i64)) (hc : w.cell? a = some x) (hc2 : w.cell? b = some y) :
    (results fn tmps).run P w = .ok (.tuple #[x, y]) w := by
  have hag : (isAgg ty).run P w = .ok false w := by simp [isAgg, underlying, hu]
  have hag2 : (isAgg ty2).run P w = .ok false w := by simp [isAgg, underlying, hu2]
  simp [results, h, loadVar]
  simp at hp hq
  rw [hp, hq]
  simp [asAddr, hag, hag2, hc, hc2]
def numR (l : List Int) (at_ s : Int) : Option Int := match leb_Get.f 12 l at_ s false with
  | some (n, er) => if er = 0 ∧ 0 ≤ n then some n else none
  | none => none
theorem numR_eq {l : List Int} {at_ s n : Int} (h : numR l at_ s = some n) : leb_Get.f 12 l at_ s false = some (n, 0) ∧ 0 ≤ n := by
  unfold numR at h
  split at h
  · split at h
    · rename_i n' er he hc
      obtain rfl := Option.some.inj h
      exact ⟨by rw [he, hc.1], hc.2⟩
    · cases h
  · cases h
/-- a symbol's name, section and numbers, as they stand there -/
def symR (l0 l1 : List Int) (l2 : List ByteArray) (at_ : Int) : Option S58 :=
  (numR l0 at_ 4).bind fun a => match symtab_At.f (l1.length + 4) l1 a with
  | none => none
  | some (name, er) => if er ≠ 0 then none else
    (numR l0 (at_ + 4) 1).bind fun info => (numR l0 (at_ + 6) 2).bind fun place => (numR l0 (at_ + 8) 8).bind fun val => (numR l0 (at_ + 16) 8).bind fun siz =>
      if (place = 0 ∨ place = 65521 ∨ place ≤ l2.length) ∧ info ≤ 65535 ∧ place ≤ 9223372036854775807 then some ⟨name, if place = 0 then ⟨#[]⟩ else if place = 65521 then ⟨#[42]⟩ else rdOf ByteArray.empty l2 (place - 1), val, siz, info / 16, info % 16⟩ else none
theorem symbol_calls (w : World) (g : Nat) (A0 : Option Addr) (c0 : Nat) (l0 : List Int) (A1 : Option Addr) (c1 : Nat) (l1 : List Int) (A2 : Option Addr) (c2 : Nat) (l2 : List ByteArray) (hC : Kd.C (Kd.int .u8) w A0 l0.length l0) (hc : l0.length ≤ c0) (hC1 : Kd.C (Kd.int .u8) w A1 l1.length l1) (hc1 : l1.length ≤ c1) (hC2 : Kd.C Kd.string w A2 l2.length l2) (h : Rd w g A0 l0.length c0 A1 l1.length c1 A2 l2.length c2) (at_ : Int) (ha0 : 0 ≤ at_) (ha1 : at_ ≤ 2097152) (x : S58) (hx : symR l0 l1 l2 at_ = some x) :
    Calls Try.prog 44 #[.pointer (some ⟨g, 0, none⟩), .int .i64 at_] w fun e w' => e = .returned (.agg #[.string x.f0, .string x.f1, .int .i64 x.f2, .int .i64 x.f3, .int .i64 x.f4, .int .i64 x.f5]) ∧ Below w.heap.size w w' := by
  unfold symR at hx
  obtain ⟨a, h1, hx⟩ := Option.bind_eq_some_iff.1 hx
  split at hx
  · cases hx
  rename_i name er he
  split at hx
  · cases hx
  rename_i hne
  obtain rfl : er = 0 := Classical.byContradiction hne
  obtain ⟨info, h3, hx⟩ := Option.bind_eq_some_iff.1 hx
  obtain ⟨place, h4, hx⟩ := Option.bind_eq_some_iff.1 hx
  obtain ⟨val, h5, hx⟩ := Option.bind_eq_some_iff.1 hx
  obtain ⟨siz, h6, hx⟩ := Option.bind_eq_some_iff.1 hx
  split at hx
  · rename_i hc2'
    obtain rfl := Option.some.inj hx
    exact symbol_ok w g A0 c0 l0 A1 c1 l1 A2 c2 l2 hC hc hC1 hc1 hC2 h at_ ha0 ha1 12 _ a info place val siz name (numR_eq h1) he (numR_eq h3) (numR_eq h4) (numR_eq h5) (numR_eq h6) hc2'.1 hc2'.2.1 hc2'.2.2 _ rfl
  · cases hx
theorem leaves_tmps {P : Program} {fn : Func} {t1 t2 : Array Value} {R : Ending → World → Prop} (ht : ∀ w, (results fn t1).run P w = (results fn t2).run P w) : ∀ (ds : List Deferred) (u : FrameMode) (w : World), Leaves P fn t1 R ds u w → Leaves P fn t2 R ds u w
  | [], .returning, w, h => by
    obtain ⟨v, h1, h2⟩ := h
    exact ⟨v, by rw [← ht]; exact h1, h2⟩
  | [], .panicking ch, w, h => h
  | [], .run, _, h => h
  | d :: ds, u, w, h => by
    obtain ⟨h1, fv, cap, f, args, h2, h3, h4⟩ := h
    refine ⟨h1, fv, cap, f, args, h2, h3, h4.mono fun e u' w' hh => ?_⟩
    cases e with
    | returned v => exact leaves_tmps ht ds _ w' hh
    | panicked ch => exact leaves_tmps ht ds _ w' hh
    | outgrown => exact hh
theorem res_put (a : Act) (n : Nat) (v : Value) (h8 : n ≠ 8) (h9 : n ≠ 9) : results Try.f26 (a.put (some n) v).tmps = results Try.f26 a.tmps := by
  have e8 : (a.put (some n) v).tmps.getD 8 undef = a.tmps.getD 8 undef := by
    simp only [Act.put, Array.getD_eq_getD_getElem?, Array.getElem?_setIfInBounds]
    rw [if_neg h8]
  have e9 : (a.put (some n) v).tmps.getD 9 undef = a.tmps.getD 9 undef := by
    simp only [Act.put, Array.getD_eq_getD_getElem?, Array.getElem?_setIfInBounds]
    rw [if_neg h9]
  have hr : Try.f26.results = #[.cell 8 43, .cell 9 29] := Try.results26
  unfold results
  rw [hr]
  simp only [List.mapM_toArray, List.mapM_cons, List.mapM_nil, e8, e9]
theorem panic_put {P : Program} {R : Ending → World → Prop} {a : Act} {w : World} {ch : List PanicEntry} {n : Nat} {v : Value} (h8 : n ≠ 8) (h9 : n ≠ 9) (h : bodyPostD P Try.f26 R (.panic ch) (a.put (some n) v) w) : bodyPostD P Try.f26 R (.panic ch) a w := by
  have h1 : Leaves P Try.f26 (a.put (some n) v).tmps R (a.put (some n) v).defers (.panicking ch) w := h
  have h2 : Leaves P Try.f26 a.tmps R (a.put (some n) v).defers (.panicking ch) w := leaves_tmps (fun w => by rw [res_put a n v h8 h9]) _ _ _ h1
  exact h2
end Go.Proofs.Ytejdnanhnkjaoaa.SymR
