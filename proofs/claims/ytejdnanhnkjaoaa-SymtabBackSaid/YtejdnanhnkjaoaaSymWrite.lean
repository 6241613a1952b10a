/- symtab.Write: what it answers. -/
import Derived.Test.YtejdnanhnkjaoaaSymPut
import Derived.Test.YtejdnanhnkjaoaaGf23
import Derived.Test.YtejdnanhnkjaoaaGf12
import Derived.Test.YtejdnanhnkjaoaaGfM
namespace Go.Proofs.Ytejdnanhnkjaoaa.SymW
set_option linter.unusedVariables false
set_option linter.unusedSimpArgs false
open Go.RowKit Go.Proofs.Ytejdnanhnkjaoaa.G Go.Proofs.YtejdnanhnkjaoaaW.PrintWords Go.Proofs.YtejdnanhnkjaoaaW.PrintLast Go.Proofs.YtejdnanhnkjaoaaW.PrintMore
open Go.Proofs.Ytejdnanhnkjaoaa.Bit
theorem results4 {fn : Func} {p t u v : Tmp} {ty e : TypeId} (h : fn.results = #[.cell p ty, .tmp t, .tmp u, .tmp v]) (tmps : Array Value) (P : Program) (w : World) (a : Addr) (x : Value) (hp : tmps.getD p undef = .pointer (some a)) (hu : P.underlying ty = some (.slice e)) (hc : w.cell? a = some x) :
  (results fn tmps).run P w = .ok (.tuple #[x, tmps.getD t undef, tmps.getD u undef, tmps.getD v undef]) w := by
 have hag : (isAgg ty).run P w = .ok false w := by simp [isAgg, underlying, hu]
 simp [results, h, loadVar]
 simp at hp
 rw [hp]
 simp [asAddr, hag, hc]
/-- where a name stands among names; -1: nowhere -/
def idxL : List ByteArray → ByteArray → Int → Int
 | [], _, _ => -1
 | x :: r, s, i => if s.toList = x.toList then i else idxL r s (i + 1)
theorem index_l0 (l : List ByteArray) (hl : l.length ≤ 1000000) (s : ByteArray) (d : Nat) : ∀ (k i : Nat), i + d = l.length → d < k → slices_Index_string_string.l0 k l s (l.length : Int) (i : Int) = some (idxL (l.drop i) s (i : Int)) := by
 induction d with
 | zero =>
  intro k i h hk
  obtain ⟨k, rfl⟩ : ∃ m, k = m + 1 := ⟨k - 1, by omega⟩
  rw [slices_Index_string_string.l0, if_neg (by omega), List.drop_of_length_le (by omega)]
  rfl
 | succ d ih =>
  intro k i h hk
  obtain ⟨k, rfl⟩ : ∃ m, k = m + 1 := ⟨k - 1, by omega⟩
  have hi : i < l.length := by omega
  have hrd : rdOf ByteArray.empty l (i : Int) = l[i] := by simp [rdOf, List.getD, hi]
  rw [slices_Index_string_string.l0, if_pos (by omega), if_pos (by omega), if_pos (by omega), hrd, List.drop_eq_getElem_cons hi, show wrap64 ((i : Int) + 1) = ((i + 1 : Nat) : Int) from by unfold wrap64; omega, ih k (i + 1) (by omega) (by omega)]
  simp only [idxL]
  rw [show ((i + 1 : Nat) : Int) = (i : Int) + 1 from by omega]
  split <;> rfl
theorem index_f (l : List ByteArray) (hl : l.length ≤ 1000000) (s : ByteArray) (k : Nat) (hk : l.length < k) : slices_Index_string_string.f k l s = some (idxL l s 0) := by
 have := index_l0 l hl s l.length k 0 (by omega) hk
 exact this
/-- the number of a symbol's section -/
def placeOf (secs : List ByteArray) (s : ByteArray) : Int := if s.toList = [] then 0 else if s.toList = [42] then 65521 else wrap64 (1 + idxL secs s 0)
def entryB (secs : List ByteArray) (x : S58) (at_ : Int) : List Int :=
 putL at_ 4 ++ putL (wrap64 (wrap64 (16 * x.f4) + x.f5)) 1 ++ putL 0 1 ++ putL (placeOf secs x.f1) 2 ++ putL x.f2 8 ++ putL x.f3 8
def symsOf (secs : List ByteArray) : List S58 → List Int → List Int
 | x :: xs, a :: ys => entryB secs x a ++ symsOf secs xs ys
 | _, _ => []
def locals (l : List S58) : List S58 := l.filter (fun x => decide (x.f4 = 0))
def globals (l : List S58) : List S58 := l.filter (fun x => !decide (x.f4 = 0))
def ordered (l : List S58) : List S58 := locals l ++ globals l
def namesOf (l : List S58) : List ByteArray := l.map (·.f0)
def writeF (l : List S58) (secs : List ByteArray) : Option (List Int × List Int × Int × Int) :=
 if symCheck l secs ≠ 0 then some ([], [], 0, symCheck l secs)
 else if l.length ≤ 2000 ∧ secs.length ≤ 64 then
  (match symtab_Strings.f (namesOf (ordered l)) with
  | none => none
  | some (strs, at_, e) => if e ≠ 0 then some ([], [], 0, e) else if at_.length = l.length then some (List.replicate 24 0 ++ symsOf secs (ordered l) at_, strs, 1 + ((locals l).length : Int), 0) else none)
 else none
theorem ordered_length (l : List S58) : (ordered l).length = l.length := by
 unfold ordered locals globals
 rw [List.length_append]
 induction l with
 | nil => rfl
 | cons x l ih =>
  simp only [List.filter_cons]
  cases decide (x.f4 = 0) <;> simp <;> omega
theorem symsOf_step (secs : List ByteArray) : ∀ (o : List S58) (a : List Int) (i : Nat) (hi : i < o.length) (hj : i < a.length), symsOf secs (o.take (i + 1)) (a.take (i + 1)) = symsOf secs (o.take i) (a.take i) ++ entryB secs o[i] a[i]
 | [], _, i, hi, _ => by simp at hi
 | _ :: _, [], i, _, hj => by simp at hj
 | x :: o, y :: a, 0, _, _ => by simp [symsOf]
 | x :: o, y :: a, i + 1, hi, hj => by
  have := symsOf_step secs o a i (by simpa using hi) (by simpa using hj)
  simp only [List.take_succ_cons, symsOf, List.getElem_cons_succ]
  rw [this, List.append_assoc]
theorem entryB_le (secs : List ByteArray) (x : S58) (a : Int) : (entryB secs x a).length ≤ 48 := by
 unfold entryB
 simp only [List.length_append]
 have h1 := putL_le a 4
 have h2 := putL_le (wrap64 (wrap64 (16 * x.f4) + x.f5)) 1
 have h3 := putL_le 0 1
 have h4 := putL_le (placeOf secs x.f1) 2
 have h5 := putL_le x.f2 8
 have h6 := putL_le x.f3 8
 omega
theorem symsOf_le (secs : List ByteArray) : ∀ (o : List S58) (a : List Int), (symsOf secs o a).length ≤ 48 * o.length
 | [], _ => by simp [symsOf]
 | _ :: _, [] => by simp [symsOf]
 | x :: o, y :: a => by
  have := symsOf_le secs o a
  have := entryB_le secs x y
  simp only [symsOf, List.length_append, List.length_cons]
  omega
set_option maxHeartbeats 4000000 in
set_option maxRecDepth 100000 in
theorem write_calls (A0 : Option Addr) (c0 : Nat) (l0 : List S58) (A1 : Option Addr) (c1 : Nat) (l1 : List ByteArray) (r1 : List Int) (r2 : List Int) (r3 : Int) (r4 : Int) (w : World) (hr0 : Kd.C k58 w A0 l0.length l0) (hc0 : l0.length ≤ c0) (hr1 : Kd.C Kd.string w A1 l1.length l1) (hc1 : l1.length ≤ c1) (h : writeF l0 l1 = some (r1, r2, r3, r4)) :
  Calls Try.prog 21 #[.slice A0 l0.length c0, .slice A1 l1.length c1] w fun e w' => ∃ v0_ v1_ : Value, e = .returned (.tuple #[v0_, v1_, .int .i64 r3, .int .i64 r4]) ∧ Kd.R (Kd.int .u8) 5 w' w.heap.size (fun k_ => some k_ ≠ (v1_ : Value).ownBlock) v0_ r1 ∧ Kd.R (Kd.int .u8) 5 w' w.heap.size (fun k_ => some k_ ≠ (v0_ : Value).ownBlock) v1_ r2 ∧ Below w.heap.size w w' := by
 have HR0 := Aside0.mk hr0
 have HC0 := Aside0.mk hc0
 have HR1 := Aside0.mk hr1
 have HC1 := Aside0.mk hc1
 have HH := Aside0.mk h
 clear hr0 hc0 hr1 hc1 h
 have hix0 : ∀ W : World, Sem.run Try.prog (Instr.index 66 (.agg #[.bool true, .bool false]) (.int .i64 0)) W = .ok (.bool true) W := fun W => by kernel_rfl
 have hix1 : ∀ W : World, Sem.run Try.prog (Instr.index 66 (.agg #[.bool true, .bool false]) (.int .i64 1)) W = .ok (.bool false) W := fun W => by kernel_rfl
 go_enter Try.func21, Try.ntmps21
 go_wp2_with fail
 refine (symtab_Check.calls A0 c0 l0 A1 c1 l1 (symCheck l0 l1) _ (Kd.C_below HR0.out (below_alloc (Below.refl _ _) _)) HC0.out (Kd.C_below HR1.out (below_alloc (Below.refl _ _) _)) HC1.out rfl).mono ?_
 rintro e w1 ⟨rfl, hb1⟩
 have HB := Aside0.mk (below_step (below_alloc (Below.refl w.heap.size w) (.cells #[.slice none 0 0] 24)) hb1)
 have hpc : w1.heap[w.heap.size]? = some (.cells #[.slice none 0 0] 24 (0, 0)) := blk_below (blk_new w _) hb1
 have HPC := Aside0.mk hpc
 have q0 := blk_frozen hpc 0
 clear hb1 hpc
 by_cases ce : symCheck l0 l1 = 0
 case neg =>
  have H := HH.out
  unfold writeF at H
  rw [if_pos ce] at H
  simp only [Option.some.injEq, Prod.mk.injEq] at H
  obtain ⟨rfl, rfl, rfl, her⟩ := H
  rw [her] at ce ⊢
  clear HH
  have d1 : (r4 == 0) = false := beq_eq_false_iff_ne.mpr ce
  have d2 : (r4 != 0) = true := bne_iff_ne.mpr ce
  have hc0 : w1.cell? ⟨w.heap.size, 0, none⟩ = some (.slice none 0 0) := (blk_cell HPC.out 0).trans rfl
  go_wp2
  exact bodyPost_ret (v := .tuple #[.slice none 0 0, .slice none 0 0, .int .i64 0, .int .i64 r4]) (results4 (p := 4) (t := 5) (u := 6) (v := 7) rfl _ _ _ ⟨w.heap.size, 0, none⟩ (.slice none 0 0) rfl Try.underlying24 ((blk_cell (blk_put HPC.out 0 _ rfl) 0).trans rfl)) rfl ⟨.slice none 0 0, .slice none 0 0, rfl, Kd.R_nil _ _ _ _ _, Kd.R_nil _ _ _ _ _, HB.out.setCell (Nat.le_refl _) _⟩
 have H := HH.out
 unfold writeF at H
 rw [if_neg (fun h => h ce)] at H
 rw [ce]
 by_cases cl : l0.length ≤ 2000 ∧ l1.length ≤ 64
 case neg => rw [if_neg cl] at H; cases H
 rw [if_pos cl] at H
 have HH := Aside0.mk H
 have HL := Aside0.mk cl.1
 have HL1 := Aside0.mk cl.2
 clear H ce cl HC0
 go_wp2
 go_loopg [6, 9, 29] 2 (fun kq v6 v9 v29 w' => ∃ (n : Nat), n + kq = 2 ∧ v29 = .int .i64 (n : Int) ∧ v6 = .int .i64 (if n = 0 then 0 else 1 + ((locals l0).length : Int)) ∧ Aside0 (Kd.R k58 58 w' w.heap.size (fun k => k ≠ w.heap.size) v9 (if n = 0 then [] else if n = 1 then locals l0 else ordered l0)) ∧ Aside0 (Below w.heap.size w w') ∧ Aside0 (w'.heap[w.heap.size]? = some (.cells #[.slice none 0 0] 24 (0, 0))))
 case atStart => exact ⟨0, rfl, rfl, rfl, ⟨Kd.R_nil _ _ _ _ _⟩, HB, HPC⟩
 case round =>
  clear HB HPC q0
  obtain ⟨n, hn, rfl, rfl, HO, HB, HPC⟩ := hrel
  cases gk with
  | zero =>
   obtain rfl : n = 2 := by omega
   rw [if_neg (by decide), if_neg (by decide)] at HO
   obtain ⟨A9, c9, rfl⟩ := Kd.R_slice HO.out
   have hol := ordered_length l0
   have HOL := Aside0.mk hol
   have hcap := (Kd.R_reads' HO.out).2.1
   rw [hol] at HO hcap
   have HCAP := Aside0.mk hcap
   rw [hol]
   clear hol hcap
   go_wp2
   go_loopg [14, 55] l0.length (fun kq v14 v55 w' => ∃ (m : Nat), m + kq = l0.length ∧ v55 = .int .i64 (m : Int) ∧ Aside0 (Kd.R Kd.string 9 w' w.heap.size (fun k => k ≠ w.heap.size ∧ some k ≠ (Value.slice A9 l0.length c9).ownBlock) v14 (namesOf ((ordered l0).take m))) ∧ Aside0 (Kd.R k58 58 w' w.heap.size (fun k => k ≠ w.heap.size) (.slice A9 l0.length c9) (ordered l0)) ∧ Aside0 (Below w.heap.size w w') ∧ Aside0 (w'.heap[w.heap.size]? = some (.cells #[.slice none 0 0] 24 (0, 0))))
   case atStart => exact ⟨0, by omega, rfl, ⟨Kd.R_nil _ _ _ _ _⟩, HO, HB, HPC⟩
   case round =>
    clear HO HB HPC
    obtain ⟨m, hm, rfl, HN, HO, HB, HPC⟩ := hrel
    cases gk with
    | zero =>
     obtain rfl : m = l0.length := by omega
     rw [List.take_of_length_le (by rw [HOL.out]; omega)] at HN
     have dm : decide ((l0.length : Int) < (l0.length : Int)) = false := decide_eq_false (by omega)
     obtain ⟨A14, c14, rfl⟩ := Kd.R_slice HN.out
     go_wp2_with fail
     have H := HH.out
     cases hst : symtab_Strings.f (namesOf (ordered l0)) with
     | none => rw [hst] at H; cases H
     | some p =>
     obtain ⟨strs, at_, er⟩ := p
     rw [hst] at H
     refine (symtab_Strings.calls A14 c14 (namesOf (ordered l0)) strs at_ er _ (Kd.R_reads' HN.out).2.2 (Kd.R_reads' HN.out).2.1 hst).mono ?_
     rintro e w2 ⟨sv, av, rfl, hs, ha, hb⟩
     have H2 : (if er ≠ 0 then some ([], [], 0, er) else if at_.length = l0.length then some (List.replicate 24 0 ++ symsOf l1 (ordered l0) at_, strs, 1 + ((locals l0).length : Int), 0) else none) = some (r1, r2, r3, r4) := H
     have HO2 := Aside0.mk (Kd.R_below HO.out hb)
     have HB2 := Aside0.mk (below_step HB.out hb)
     have hlt : w.heap.size < wr.heap.size := blk_lt HPC.out
     have HLT := Aside0.mk hlt
     have HPC2 : Aside0 (w2.heap[w.heap.size]? = some (.cells #[.slice none 0 0] 24 (0, 0))) := ⟨blk_below HPC.out hb⟩
     have HS := Aside0.mk hs
     have HA := Aside0.mk ha
     have HSZ := Aside0.mk hb.size
     have q0 := blk_frozen HPC2.out 0
     clear hb hs ha H HO HB HPC HN hlt HH hst
     by_cases ce : er = 0
     case neg =>
      rw [if_pos ce] at H2
      simp only [Option.some.injEq, Prod.mk.injEq] at H2
      obtain ⟨rfl, rfl, rfl, rfl⟩ := H2
      have d1 : (er == 0) = false := beq_eq_false_iff_ne.mpr ce
      have d2 : (er != 0) = true := bne_iff_ne.mpr ce
      have hc0 : w2.cell? ⟨w.heap.size, 0, none⟩ = some (.slice none 0 0) := (blk_cell HPC2.out 0).trans rfl
      go_wp2
      exact bodyPost_ret (v := .tuple #[.slice none 0 0, .slice none 0 0, .int .i64 0, .int .i64 er]) (results4 (p := 4) (t := 5) (u := 6) (v := 7) rfl _ _ _ ⟨w.heap.size, 0, none⟩ (.slice none 0 0) rfl Try.underlying24 ((blk_cell (blk_put HPC2.out 0 _ rfl) 0).trans rfl)) rfl ⟨.slice none 0 0, .slice none 0 0, rfl, Kd.R_nil _ _ _ _ _, Kd.R_nil _ _ _ _ _, HB2.out.setCell (Nat.le_refl _) _⟩
     subst ce
     rw [if_neg (fun h => h rfl)] at H2
     by_cases cl : at_.length = l0.length
     case neg => rw [if_neg cl] at H2; cases H2
     rw [if_pos cl] at H2
     simp only [Option.some.injEq, Prod.mk.injEq] at H2
     obtain ⟨hr1e, rfl, rfl, rfl⟩ := H2
     have HRE := Aside0.mk hr1e
     clear hr1e
     have HAL := Aside0.mk cl
     clear cl
     go_wp2_with ((with_reducible refine gate_dst (N := 74) rfl ?_); refine Kd.R_make (Kd.int .u8) w.heap.size 5 rfl (N := 74) rfl 24 _ _ rfl 24 rfl rfl Try.underlying24 (.int .u8 0) 1 info5 rfl (by decide) (by decide) 0 (ok := fun k => w2.heap.size ≤ k) (okp := fun k => w2.heap.size ≤ k) rfl (fun _ hk => hk) (Nat.le_refl _) (by decide) (by decide) HB2.out HB2.out.size ?_; intro v3 w3 ho hb hg hnew; obtain ⟨A3, c3, rfl⟩ := Kd.R_slice ho; have HV := Aside0.mk ho; have HB3 := Aside0.mk hb; have HG3 := Aside0.mk hg; have q1 : w3.frozen? ⟨w.heap.size, 0, none⟩ = false := blk_frozen (blk_grown HPC2.out hg (Option.some_ne_none _)) 0; have q2 : w3.cell? ⟨w.heap.size, 0, none⟩ = some (.slice none 0 0) := (blk_cell (blk_grown HPC2.out hg (Option.some_ne_none _)) 0).trans rfl; clear ho hb hg hnew)
     have HLP : Aside0 (w.heap.size < w2.heap.size) := ⟨Nat.lt_of_lt_of_le HLT.out HSZ.out⟩
     have hout : Out (fun j => j < w2.heap.size ∧ j ≠ w.heap.size) w2 w.heap.size w.heap.size (w3.setCell ⟨w.heap.size, 0, none⟩ (.slice A3 (List.replicate (Int.toNat 24) (0 : Int)).length c3)) (List.replicate (Int.toNat 24) 0) := by
      refine ⟨_, blk_put (blk_grown HPC2.out HG3.out (Option.some_ne_none _)) 0 _ rfl, Kd.R_mono (Kd.R_far HV.out (p := ⟨w.heap.size, 0, none⟩) (fun k hk => ?_) _) (fun k hk => ⟨?_, fun h => ?_⟩), fun j hj => ?_, ?_⟩
      ·
       have := HLP.out; show k ≠ w.heap.size; omega
      ·
       have := HLP.out; omega
      ·
       omega
      ·
       exact (RowKit.Below.heap_setCell _ _ _ _ hj.2).trans (HG3.out.block j hj.1 (by simp))
      ·
       exact Below.setCell ((Below.refl _ _).grown HG3.out HB2.out.size (fun k hk => nomatch hk)) (Nat.le_refl _) _
     have HOUT := Aside0.mk hout
     clear hout HPC2 HV HB3 HG3 q0 q1 q2
     obtain ⟨A17, c17, rfl⟩ := Kd.R_slice HA.out
     have hcap := (Kd.R_reads' HA.out).2.1
     rw [HAL.out] at HA hcap
     have HCA := Aside0.mk hcap
     rw [HAL.out]
     clear hcap
     go_loopg [78] l0.length (fun kq v78 w' => ∃ (m : Nat), m + kq = l0.length ∧ v78 = .int .i64 (m : Int) ∧ Aside0 (Out (fun j => j < w2.heap.size ∧ j ≠ w.heap.size) w2 w.heap.size w.heap.size w' (List.replicate 24 0 ++ symsOf l1 ((ordered l0).take m) (at_.take m))))
     case atStart => exact ⟨0, by omega, rfl, ⟨by rw [List.take_zero, List.take_zero]; simp only [symsOf, List.append_nil]; exact HOUT.out⟩⟩
     case round =>
      clear HOUT
      obtain ⟨m, hm, rfl, HOUT⟩ := hrel
      cases gk with
      | zero =>
       obtain rfl : m = l0.length := by omega
       rw [List.take_of_length_le (by rw [HOL.out]; omega), List.take_of_length_le (by rw [HAL.out]; omega)] at HOUT
       have dm : decide ((l0.length : Int) < (l0.length : Int)) = false := decide_eq_false (by omega)
       rw [HRE.out] at HOUT
       obtain ⟨v, hv0, hv1, hv2, hv3⟩ := HOUT.out
       have q1 : wr.frozen? ⟨w.heap.size, 0, none⟩ = false := blk_frozen hv0 0
       have q2 : wr.cell? ⟨w.heap.size, 0, none⟩ = some v := (blk_cell hv0 0).trans rfl
       have HV0 := Aside0.mk hv0
       have HV1 := Aside0.mk hv1
       have HV2 := Aside0.mk hv2
       have HV3 := Aside0.mk hv3
       obtain ⟨AV, cV, rfl⟩ := Kd.R_slice hv1
       clear hv0 hv1 hv2 hv3 HOUT
       go_wp2
       have hpq : ∀ k, sv.ownBlock = some k → k < w2.heap.size ∧ k ≠ w.heap.size ∧ w.heap.size ≤ k := fun k hk => ⟨Kd.R_lt HS.out k hk, by have := HLT.out; have := Kd.R_base HS.out k hk; omega, by have := HLT.out; have := Kd.R_base HS.out k hk; omega⟩
       refine bodyPost_ret (v := .tuple #[.slice AV r1.length cV, sv, .int .i64 (1 + ((locals l0).length : Int)), .int .i64 0]) (results4 (p := 4) (t := 5) (u := 6) (v := 7) rfl _ _ _ ⟨w.heap.size, 0, none⟩ (.slice AV r1.length cV) rfl Try.underlying24 ((blk_cell (blk_put HV0.out 0 _ rfl) 0).trans rfl)) rfl ⟨.slice AV r1.length cV, sv, rfl, ?_, ?_, (HB2.out.trans HV3.out).setCell (Nat.le_refl _) _⟩
       ·
        refine Kd.R_mono (Kd.R_far HV1.out (p := ⟨w.heap.size, 0, none⟩) (fun k hk => hk.1) _) (fun k hk e => ?_)
        have := hpq k e.symm
        exact hk.2 ⟨this.1, this.2.1⟩
       ·
        have h1 := Kd.R_lower (Kd.R_tight rfl HS.out) (Nat.le_of_lt HLT.out)
        refine Kd.R_mono (Kd.R_step h1 (fun k hk hlt => ?_)) (fun k hk e => ?_)
        ·
         have hq := hpq k hk.symm
         exact (RowKit.Below.heap_setCell _ _ _ _ hq.2.1).trans (HV2.out k ⟨hq.1, hq.2.1⟩)
        ·
         have hq := hpq k hk.symm
         exact (HV1.out.1 k e.symm).2 ⟨hq.1, hq.2.1⟩
      | succ k2 =>
       have dm : decide ((m : Int) < (l0.length : Int)) = true := decide_eq_true (by omega)
       have d0 : decide (0 ≤ (m : Int)) = true := decide_eq_true (by omega)
       have hBW : Below w.heap.size w wr := HB2.out.trans HOUT.out.choose_spec.2.2.2
       have hKW := HOUT.out.choose_spec.2.2.1
       have hC := (Kd.R_reads' HO2.out).2.2
       have hCA := (Kd.R_reads' HA.out).2.2
       have hox : ∀ k, (Value.slice A9 l0.length c9).ownBlock = some k → k < w2.heap.size ∧ k ≠ w.heap.size := fun k hk => ⟨Kd.R_lt HO2.out k hk, HO2.out.1 k hk⟩
       have hax : ∀ k, (Value.slice A17 l0.length c17).ownBlock = some k → k < w2.heap.size ∧ k ≠ w.heap.size := fun k hk => ⟨Kd.R_lt HA.out k hk, by have := HLT.out; have := Kd.R_base HA.out k hk; omega⟩
       have hOR := Kd.R_step (Kd.R_tight rfl HO2.out) (w1 := wr) (fun k hk _ => hKW k (hox k hk.symm))
       have hAR := Kd.R_step (Kd.R_tight rfl HA.out) (w1 := wr) (fun k hk _ => hKW k (hax k hk.symm))
       have hC := (Kd.R_reads' hOR).2.2
       have hCA := (Kd.R_reads' hAR).2.2
       rw [HOL.out] at hC
       rw [HAL.out] at hCA
       have HBW := Aside0.mk hBW
       clear hox hax hOR hAR hKW hBW
       obtain ⟨ad, e1, hx0, hx1, hx2, hx3, hx4, hx5⟩ := at_T58 hC (m : Int) (by omega) (by omega)
       obtain ⟨ad2, e2, hy0⟩ := Kd.at_int hCA (m : Int) (by omega) (by omega)
       have hy3 : ∀ W : World, (∀ j, (j < w2.heap.size ∧ j ≠ w.heap.size) → W.heap[j]? = w2.heap[j]?) → W.cell? (ad2.add m) = some (.int .i64 (rd at_ (m : Int))) := by
        intro W hW
        have hR2 := Kd.R_step (Kd.R_tight rfl HA.out) (w1 := W) (fun k hk _ => hW k ⟨Kd.R_lt HA.out k hk.symm, by have := HLT.out; have := Kd.R_base HA.out k hk.symm; omega⟩)
        have hC2 := (Kd.R_reads' hR2).2.2
        rw [HAL.out] at hC2
        obtain ⟨ad3, e3, hy3⟩ := Kd.at_int hC2 (m : Int) (by omega) (by omega)
        rw [e2] at e3
        obtain rfl := Option.some.inj e3
        rw [Int.toNat_natCast] at hy3
        exact hy3
       have HY3 := Aside0.mk hy3
       clear hy3
       subst e1 e2
       rw [Int.toNat_natCast] at hx0 hx1 hx2 hx3 hx4 hx5 hy0
       have HX2 : Aside0 ((ordered l0)[m]'(by rw [HOL.out]; omega) = rd_T58 (ordered l0) (m : Int)) := ⟨by simp [rd_T58, List.getD, show m < (ordered l0).length by rw [HOL.out]; omega]⟩
       have HY2 : Aside0 (at_[m]'(by rw [HAL.out]; omega) = rd at_ (m : Int)) := ⟨by simp [rd, List.getD, show m < at_.length by rw [HAL.out]; omega]⟩
       clear hC hCA
       generalize rd_T58 (ordered l0) (m : Int) = x at *
       generalize rd at_ (m : Int) = y at *
       have hwm : wrap64 ((m : Int) + 1) = ((m + 1 : Nat) : Int) := by have := HL.out; unfold wrap64; omega
       have hwi : IntKind.i64.wrap ((m : Int) + 1) = ((m + 1 : Nat) : Int) := by have := HL.out; rw [IntKind.wrap_i64]; omega
       have hop : ∀ k, (l1.length < k) → slices_Index_string_string.f k l1 x.f1 = some (idxL l1 x.f1 0) := fun k hk => index_f l1 (by have := HL1.out; omega) x.f1 k hk
       have hW0 := (HOUT.out.choose_spec.1)
       have hlen : (List.replicate 24 (0 : Int) ++ symsOf l1 ((ordered l0).take m) (at_.take m)).length ≤ 200000 := by
        have h1 := symsOf_le l1 ((ordered l0).take m) (at_.take m)
        have h2 : ((ordered l0).take m).length ≤ m := by rw [List.length_take]; omega
        have h3 := HL.out
        rw [List.length_append, List.length_replicate]
        omega
       have HLEN := Aside0.mk hlen
       obtain ⟨XS, hXS⟩ : ∃ XS, XS = List.replicate 24 (0 : Int) ++ symsOf l1 ((ordered l0).take m) (at_.take m) := ⟨_, rfl⟩
       rw [← hXS] at HOUT HLEN
       have HXS := Aside0.mk hXS
       have hpcw : w.heap.size < wr.heap.size := (Array.getElem?_eq_some_iff.1 hW0).1
       clear hW0 hlen hXS
       have hix : w2.heap.size ≤ wr.heap.size := HOUT.out.choose_spec.2.2.2.size
       have HIX := Aside0.mk hix
       have HPW := Aside0.mk hpcw
       clear hix hpcw
       have HMO : Aside0 (m < (ordered l0).length) := ⟨by rw [HOL.out]; omega⟩
       have HMA : Aside0 (m < at_.length) := ⟨by rw [HAL.out]; omega⟩
       have HMS := Aside0.mk (show k2 < k2 + 1 by omega)
       have HME := Aside0.mk (show (m + 1) + k2 = l0.length by omega)
       have HIDX := hop (l1.length + 1) (by omega)
       clear hop
       have HIDX := Aside0.mk HIDX
       go_wp2_with fail
       refine (slices_Index_string_string.calls (l1.length + 1) A1 c1 l1 x.f1 (idxL l1 x.f1 0) _ (Kd.C_below HR1.out (below_alloc HBW.out _)) HC1.out HIDX.out).mono ?_
       rintro e W0 ⟨rfl, hd⟩
       have hb := hd.below
       have hbW : Below wr.heap.size wr W0 := below_step (below_alloc (Below.refl _ _) (.cells #[.string x.f0, .string x.f1, .int .i64 x.f2, .int .i64 x.f3, .int .i64 x.f4, .int .i64 x.f5] 58)) hb
       have hout := HOUT.out.round hbW wr.heap.size (Nat.le_refl _)
       have hbk : W0.heap[wr.heap.size]? = some (.cells #[.string x.f0, .string x.f1, .int .i64 x.f2, .int .i64 x.f3, .int .i64 x.f4, .int .i64 x.f5] 58 (0, 0)) := blk_below (blk_new wr _) hb
       have hsz : wr.heap.size < W0.heap.size := blk_lt hbk
       have HBK := Aside0.mk hbk
       have HKP : Aside0 (∀ j, ((j < w2.heap.size ∧ j ≠ w.heap.size) ∨ j = wr.heap.size) → j < W0.heap.size ∧ j ≠ w.heap.size) := ⟨fun j hj => by
        have := HIX.out
        have := HPW.out
        rcases hj with hj | hj
        ·
         exact ⟨by omega, hj.2⟩
        ·
         exact ⟨by omega, by omega⟩⟩
       have HAW : Aside0 (w.heap.size ≤ W0.heap.size) := ⟨by have := HPW.out; omega⟩
       have HKB : Aside0 (∀ j, (j < w2.heap.size ∧ j ≠ w.heap.size) → W0.heap[j]? = w2.heap[j]?) := ⟨fun j hj => (hbW.block j (by have := HIX.out; omega)).trans (HOUT.out.choose_spec.2.2.1 j hj)⟩
       have HBB : Aside0 (Below w.heap.size w2 W0) := ⟨HOUT.out.choose_spec.2.2.2.trans (hbW.mono (Nat.le_of_lt HPW.out))⟩
       clear HOUT
       have HOUT := Aside0.mk hout
       clear hout hb hd hbW hsz
       have k1 : W0.cell? ⟨wr.heap.size, 1, none⟩ = some (.string x.f1) := (blk_cell hbk 1).trans rfl
       have k2_ : W0.cell? ⟨wr.heap.size, 2, none⟩ = some (.int .i64 x.f2) := (blk_cell hbk 2).trans rfl
       have k3 : W0.cell? ⟨wr.heap.size, 3, none⟩ = some (.int .i64 x.f3) := (blk_cell hbk 3).trans rfl
       have k4 : W0.cell? ⟨wr.heap.size, 4, none⟩ = some (.int .i64 x.f4) := (blk_cell hbk 4).trans rfl
       have k5 : W0.cell? ⟨wr.heap.size, 5, none⟩ = some (.int .i64 x.f5) := (blk_cell hbk 5).trans rfl
       have hy1 : W0.cell? (ad2.add m) = some (.int .i64 y) := HY3.out W0 HKB.out
       clear hbk
       obtain ⟨b1, da⟩ : ∃ b, (x.f1.toList == ([] : List UInt8)) = b := ⟨_, rfl⟩
       obtain ⟨b2, db⟩ : ∃ b, (x.f1.toList == ([42] : List UInt8)) = b := ⟨_, rfl⟩
       have HPL : Aside0 (placeOf l1 x.f1 = if b1 = true then 0 else if b2 = true then 65521 else wrap64 (1 + idxL l1 x.f1 0)) := ⟨by rw [← da, ← db]; unfold placeOf; simp only [beq_iff_eq]⟩
       obtain ⟨PP, hpp⟩ : ∃ PP : Int, PP = if b1 = true then 0 else if b2 = true then 65521 else wrap64 (1 + idxL l1 x.f1 0) := ⟨_, rfl⟩
       rw [← hpp] at HPL
       have HPP := Aside0.mk hpp
       clear hpp
       have hbb : (b1 = true ∧ b2 = false) ∨ (b1 = false ∧ b2 = true) ∨ (b1 = false ∧ b2 = false) := by
        cases b1
        ·
         cases b2 <;> simp
        ·
         left; refine ⟨rfl, ?_⟩; rw [← db, beq_iff_eq.1 da]; rfl
       obtain ⟨rfl, rfl⟩ | ⟨rfl, rfl⟩ | ⟨rfl, rfl⟩ := hbb
       all_goals
        go_wp2_with fail
        refine (put_calls (fun j => (j < w2.heap.size ∧ j ≠ w.heap.size) ∨ j = wr.heap.size) W0 w.heap.size w.heap.size (Nat.le_refl _) HAW.out HKP.out y 4 (by decide) _ (XS) (Nat.le_trans HLEN.out (by decide)) HOUT.out).mono ?_
        rintro e W1 ⟨rfl, hout⟩
        clear HOUT k1 k2_ k3 k4 k5 hy1
        have HLEN1 := Aside0.mk (putL_len HLEN.out y 4)
        have HOUT := Aside0.mk hout
        have hbk : W1.heap[wr.heap.size]? = some (.cells #[.string x.f0, .string x.f1, .int .i64 x.f2, .int .i64 x.f3, .int .i64 x.f4, .int .i64 x.f5] 58 (0, 0)) := hout.blk HBK.out
        clear hout
        have k2_ : W1.cell? ⟨wr.heap.size, 2, none⟩ = some (.int .i64 x.f2) := (blk_cell hbk 2).trans rfl
        have k3 : W1.cell? ⟨wr.heap.size, 3, none⟩ = some (.int .i64 x.f3) := (blk_cell hbk 3).trans rfl
        have k4 : W1.cell? ⟨wr.heap.size, 4, none⟩ = some (.int .i64 x.f4) := (blk_cell hbk 4).trans rfl
        have k5 : W1.cell? ⟨wr.heap.size, 5, none⟩ = some (.int .i64 x.f5) := (blk_cell hbk 5).trans rfl
        clear hbk
        go_wp2_with fail
        refine (put_calls (fun j => (j < w2.heap.size ∧ j ≠ w.heap.size) ∨ j = wr.heap.size) W0 w.heap.size w.heap.size (Nat.le_refl _) HAW.out HKP.out (wrap64 (wrap64 (16 * x.f4) + x.f5)) 1 (by decide) _ (XS ++ putL y 4) (Nat.le_trans HLEN1.out (by decide)) HOUT.out).mono ?_
        rintro e W2 ⟨rfl, hout⟩
        clear HOUT k2_ k3 k4 k5
        have HLEN2 := Aside0.mk (putL_len HLEN1.out (wrap64 (wrap64 (16 * x.f4) + x.f5)) 1)
        have HOUT := Aside0.mk hout
        have hbk : W2.heap[wr.heap.size]? = some (.cells #[.string x.f0, .string x.f1, .int .i64 x.f2, .int .i64 x.f3, .int .i64 x.f4, .int .i64 x.f5] 58 (0, 0)) := hout.blk HBK.out
        clear hout
        have k2_ : W2.cell? ⟨wr.heap.size, 2, none⟩ = some (.int .i64 x.f2) := (blk_cell hbk 2).trans rfl
        have k3 : W2.cell? ⟨wr.heap.size, 3, none⟩ = some (.int .i64 x.f3) := (blk_cell hbk 3).trans rfl
        have k4 : W2.cell? ⟨wr.heap.size, 4, none⟩ = some (.int .i64 x.f4) := (blk_cell hbk 4).trans rfl
        have k5 : W2.cell? ⟨wr.heap.size, 5, none⟩ = some (.int .i64 x.f5) := (blk_cell hbk 5).trans rfl
        clear hbk
        go_wp2_with fail
        refine (put_calls (fun j => (j < w2.heap.size ∧ j ≠ w.heap.size) ∨ j = wr.heap.size) W0 w.heap.size w.heap.size (Nat.le_refl _) HAW.out HKP.out 0 1 (by decide) _ (XS ++ putL y 4 ++ putL (wrap64 (wrap64 (16 * x.f4) + x.f5)) 1) (Nat.le_trans HLEN2.out (by decide)) HOUT.out).mono ?_
        rintro e W3 ⟨rfl, hout⟩
        clear HOUT k2_ k3 k4 k5
        have HLEN3 := Aside0.mk (putL_len HLEN2.out 0 1)
        have HOUT := Aside0.mk hout
        have hbk : W3.heap[wr.heap.size]? = some (.cells #[.string x.f0, .string x.f1, .int .i64 x.f2, .int .i64 x.f3, .int .i64 x.f4, .int .i64 x.f5] 58 (0, 0)) := hout.blk HBK.out
        clear hout
        have k2_ : W3.cell? ⟨wr.heap.size, 2, none⟩ = some (.int .i64 x.f2) := (blk_cell hbk 2).trans rfl
        have k3 : W3.cell? ⟨wr.heap.size, 3, none⟩ = some (.int .i64 x.f3) := (blk_cell hbk 3).trans rfl
        have k4 : W3.cell? ⟨wr.heap.size, 4, none⟩ = some (.int .i64 x.f4) := (blk_cell hbk 4).trans rfl
        have k5 : W3.cell? ⟨wr.heap.size, 5, none⟩ = some (.int .i64 x.f5) := (blk_cell hbk 5).trans rfl
        clear hbk
        go_wp2_with fail
        refine (put_calls_lit (fun j => (j < w2.heap.size ∧ j ≠ w.heap.size) ∨ j = wr.heap.size) W0 w.heap.size w.heap.size (Nat.le_refl _) HAW.out HKP.out PP _ HPP.out 2 (by decide) _ (XS ++ putL y 4 ++ putL (wrap64 (wrap64 (16 * x.f4) + x.f5)) 1 ++ putL 0 1) (Nat.le_trans HLEN3.out (by decide)) HOUT.out).mono ?_
        rintro e W4 ⟨rfl, hout⟩
        clear HOUT k2_ k3 k4 k5
        have HLEN4 := Aside0.mk (putL_len HLEN3.out PP 2)
        have HOUT := Aside0.mk hout
        have hbk : W4.heap[wr.heap.size]? = some (.cells #[.string x.f0, .string x.f1, .int .i64 x.f2, .int .i64 x.f3, .int .i64 x.f4, .int .i64 x.f5] 58 (0, 0)) := hout.blk HBK.out
        clear hout
        have k2_ : W4.cell? ⟨wr.heap.size, 2, none⟩ = some (.int .i64 x.f2) := (blk_cell hbk 2).trans rfl
        have k3 : W4.cell? ⟨wr.heap.size, 3, none⟩ = some (.int .i64 x.f3) := (blk_cell hbk 3).trans rfl
        have k4 : W4.cell? ⟨wr.heap.size, 4, none⟩ = some (.int .i64 x.f4) := (blk_cell hbk 4).trans rfl
        have k5 : W4.cell? ⟨wr.heap.size, 5, none⟩ = some (.int .i64 x.f5) := (blk_cell hbk 5).trans rfl
        clear hbk
        go_wp2_with fail
        refine (put_calls (fun j => (j < w2.heap.size ∧ j ≠ w.heap.size) ∨ j = wr.heap.size) W0 w.heap.size w.heap.size (Nat.le_refl _) HAW.out HKP.out x.f2 8 (by decide) _ (XS ++ putL y 4 ++ putL (wrap64 (wrap64 (16 * x.f4) + x.f5)) 1 ++ putL 0 1 ++ putL PP 2) (Nat.le_trans HLEN4.out (by decide)) HOUT.out).mono ?_
        rintro e W5 ⟨rfl, hout⟩
        clear HOUT k2_ k3 k4 k5
        have HLEN5 := Aside0.mk (putL_len HLEN4.out x.f2 8)
        have HOUT := Aside0.mk hout
        have hbk : W5.heap[wr.heap.size]? = some (.cells #[.string x.f0, .string x.f1, .int .i64 x.f2, .int .i64 x.f3, .int .i64 x.f4, .int .i64 x.f5] 58 (0, 0)) := hout.blk HBK.out
        clear hout
        have k2_ : W5.cell? ⟨wr.heap.size, 2, none⟩ = some (.int .i64 x.f2) := (blk_cell hbk 2).trans rfl
        have k3 : W5.cell? ⟨wr.heap.size, 3, none⟩ = some (.int .i64 x.f3) := (blk_cell hbk 3).trans rfl
        have k4 : W5.cell? ⟨wr.heap.size, 4, none⟩ = some (.int .i64 x.f4) := (blk_cell hbk 4).trans rfl
        have k5 : W5.cell? ⟨wr.heap.size, 5, none⟩ = some (.int .i64 x.f5) := (blk_cell hbk 5).trans rfl
        clear hbk
        go_wp2_with fail
        refine (put_calls (fun j => (j < w2.heap.size ∧ j ≠ w.heap.size) ∨ j = wr.heap.size) W0 w.heap.size w.heap.size (Nat.le_refl _) HAW.out HKP.out x.f3 8 (by decide) _ (XS ++ putL y 4 ++ putL (wrap64 (wrap64 (16 * x.f4) + x.f5)) 1 ++ putL 0 1 ++ putL PP 2 ++ putL x.f2 8) (Nat.le_trans HLEN5.out (by decide)) HOUT.out).mono ?_
        rintro e W6 ⟨rfl, hout⟩
        clear HOUT k2_ k3 k4 k5
        have HLEN6 := Aside0.mk (putL_len HLEN5.out x.f3 8)
        have HOUT := Aside0.mk hout
        have hbk : W6.heap[wr.heap.size]? = some (.cells #[.string x.f0, .string x.f1, .int .i64 x.f2, .int .i64 x.f3, .int .i64 x.f4, .int .i64 x.f5] 58 (0, 0)) := hout.blk HBK.out
        clear hout
        have k2_ : W6.cell? ⟨wr.heap.size, 2, none⟩ = some (.int .i64 x.f2) := (blk_cell hbk 2).trans rfl
        have k3 : W6.cell? ⟨wr.heap.size, 3, none⟩ = some (.int .i64 x.f3) := (blk_cell hbk 3).trans rfl
        have k4 : W6.cell? ⟨wr.heap.size, 4, none⟩ = some (.int .i64 x.f4) := (blk_cell hbk 4).trans rfl
        have k5 : W6.cell? ⟨wr.heap.size, 5, none⟩ = some (.int .i64 x.f5) := (blk_cell hbk 5).trans rfl
        clear hbk
        go_wp2
        go_roundg k2
        case measure => exact HMS.out
        case rel =>
         have he : (XS ++ putL y 4 ++ putL (wrap64 (wrap64 (16 * x.f4) + x.f5)) 1 ++ putL 0 1 ++ putL PP 2 ++ putL x.f2 8 ++ putL x.f3 8) = List.replicate 24 (0 : Int) ++ symsOf l1 ((ordered l0).take (m + 1)) (at_.take (m + 1)) := by
          rw [symsOf_step l1 (ordered l0) at_ m HMO.out HMA.out, HX2.out, HY2.out, HXS.out]
          unfold entryB
          rw [HPL.out]
          simp only [List.append_assoc]
         have hfin := HOUT.out.back HKB.out HBB.out
         rw [he] at hfin
         exact ⟨m + 1, HME.out, by rfl, ⟨hfin⟩⟩
    | succ k2 =>
     have dm : decide ((m : Int) < (l0.length : Int)) = true := decide_eq_true (by omega)
     have hC := (Kd.R_reads' HO.out).2.2
     rw [HOL.out] at hC
     obtain ⟨ad, rfl, hx0, hx1, hx2, hx3, hx4, hx5⟩ := at_T58 hC (m : Int) (by omega) (by omega)
     rw [Int.toNat_natCast] at hx0 hx1 hx2 hx3 hx4 hx5
     have HX2 : Aside0 ([(ordered l0)[m]'(by rw [HOL.out]; omega)] = [rd_T58 (ordered l0) (m : Int)]) := ⟨by simp [rd_T58, List.getD, show m < (ordered l0).length by rw [HOL.out]; omega]⟩
     clear hC
     generalize rd_T58 (ordered l0) (m : Int) = x at *
     have hlt : w.heap.size < (wr.alloc (.cells #[.string x.f0, .string x.f1, .int .i64 x.f2, .int .i64 x.f3, .int .i64 x.f4, .int .i64 x.f5] 58)).heap.size := by have := blk_lt HPC.out; simp; omega
     have HGL := Aside0.mk hlt
     have HSZ : Aside0 ((wr.alloc (.cells #[.string x.f0, .string x.f1, .int .i64 x.f2, .int .i64 x.f3, .int .i64 x.f4, .int .i64 x.f5] 58)).heap.size = wr.heap.size + 1) := ⟨by simp⟩
     have HLE := Aside0.mk (Nat.le_of_lt hlt)
     have hal : ((namesOf ((ordered l0).take m)).length + 1) * 16 ≤ 140737488355328 := by
      have e3 := HL.out
      have e5 := HOL.out
      simp only [namesOf, List.length_map, List.length_take]
      omega
     have HAL := Aside0.mk hal
     have hfr : ∀ k, (wr.alloc (.cells #[.string x.f0, .string x.f1, .int .i64 x.f2, .int .i64 x.f3, .int .i64 x.f4, .int .i64 x.f5] 58)).heap.size ≤ k → k ≠ w.heap.size ∧ some k ≠ (Value.slice (some ad) l0.length c9).ownBlock := fun k hk => ⟨by omega, fun e => by have := Kd.R_lt HO.out k e.symm; have := HSZ.out; omega⟩
     have HFR := Aside0.mk hfr
     clear hlt hal hfr
     have hwm : wrap64 ((m : Int) + 1) = ((m + 1 : Nat) : Int) := by have := HL.out; unfold wrap64; omega
     have hwi : IntKind.i64.wrap ((m : Int) + 1) = ((m + 1 : Nat) : Int) := by have := HL.out; rw [IntKind.wrap_i64]; omega
     go_wp2_with ((with_reducible refine gate_dst (N := 63) rfl ?_); refine Kd.R_append Kd.string (w0 := w) w.heap.size (by rfl) (.tmp 59) (.tmp 62) 27 9 (.string ⟨#[]⟩) 16 rfl Try.underlying27 info9 rfl (by decide) (by decide) u14 (namesOf ((ordered l0).take m)) x.f0 [.string x.f0] (fun k => k ≠ w.heap.size ∧ some k ≠ (Value.slice (some ad) l0.length c9).ownBlock) (fun _ => False) rfl (by rw [HSZ.out]; rfl) rfl (fun _ hk => hk.elim) HFR.out (Kd.R_alloc HN.out _) (below_alloc HB.out _) HLE.out HAL.out ?_; intro v1 w4 ho hb hg hat; have HN4 := Aside0.mk ho; have HB4 := Aside0.mk hb; have HO4 := Aside0.mk (Kd.R_grown2 (Kd.R_alloc HO.out _) rfl hg (fun k hk e => (HN.out.1 k hk).2 e)); have HPC4 : Aside0 (w4.heap[w.heap.size]? = some (.cells #[.slice none 0 0] 24 (0, 0))) := ⟨blk_grown (blk_alloc HPC.out _) hg (fun e => (HN.out.1 _ e.symm).1 rfl)⟩; clear ho hb hg hat HO HPC HN HB)
     go_roundg k2
     case measure => omega
     case rel =>
      have he : namesOf ((ordered l0).take m) ++ [x.f0] = namesOf ((ordered l0).take (m + 1)) := by
       rw [← List.take_append_getElem (l := ordered l0) (i := m) (by rw [HOL.out]; omega), HX2.out]
       simp [namesOf]
      rw [he] at HN4
      exact ⟨m + 1, by omega, by rfl, HN4, HO4, HB4, HPC4⟩
  | succ k1 =>
   obtain rfl | rfl : n = 0 ∨ n = 1 := by omega
   ·
    rw [if_pos rfl] at HO
    go_wp2
    go_loopg [9, 34] l0.length (fun kq v9 v34 w' => ∃ (m : Nat), m + kq = l0.length ∧ v34 = .int .i64 (m : Int) ∧ Aside0 (Kd.R k58 58 w' w.heap.size (fun k => k ≠ w.heap.size) v9 ((l0.take m).filter (fun x => decide (x.f4 = 0)))) ∧ Aside0 (Below w.heap.size w w') ∧ Aside0 (w'.heap[w.heap.size]? = some (.cells #[.slice none 0 0] 24 (0, 0))))
    case atStart => exact ⟨0, by omega, rfl, ⟨HO.out⟩, HB, HPC⟩
    case round =>
     clear HO HB HPC
     obtain ⟨m, hm, rfl, HO, HB, HPC⟩ := hrel
     cases gk with
     | zero =>
      obtain rfl : m = l0.length := by omega
      rw [List.take_length] at HO
      have dm : decide ((l0.length : Int) < (l0.length : Int)) = false := decide_eq_false (by omega)
      obtain ⟨A9, c9, rfl⟩ := Kd.R_slice HO.out
      have HO2 : Aside0 (Kd.R k58 58 wr w.heap.size (fun k => k ≠ w.heap.size) (.slice A9 (locals l0).length c9) (locals l0)) := HO
      have hw6 : wrap64 (1 + ((locals l0).length : Int)) = 1 + ((locals l0).length : Int) := by
       have e2 := List.length_filter_le (fun x : S58 => decide (x.f4 = 0)) l0
       have e3 := HL.out
       have e4 : (locals l0).length = (l0.filter (fun x : S58 => decide (x.f4 = 0))).length := rfl
       unfold wrap64; omega
      rw [show (List.filter (fun x : S58 => decide (x.f4 = 0)) l0).length = (locals l0).length from rfl]
      go_wp2
      go_roundg k1
      case measure => omega
      case rel => exact ⟨1, by omega, by rfl, by rw [hw6]; rfl, HO2, HB, HPC⟩
     | succ k2 =>
      have dm : decide ((m : Int) < (l0.length : Int)) = true := decide_eq_true (by omega)
      obtain ⟨ad, rfl, hx0, hx1, hx2, hx3, hx4, hx5⟩ := at_T58 (Kd.C_below HR0.out HB.out) (m : Int) (by omega) (by omega)
      rw [Int.toNat_natCast] at hx0 hx1 hx2 hx3 hx4 hx5
      have HX2 : Aside0 ([l0[m]'(by omega)] = [rd_T58 l0 (m : Int)]) := ⟨by simp [rd_T58, List.getD, show m < l0.length by omega]⟩
      generalize rd_T58 l0 (m : Int) = x at *
      have hlt : w.heap.size < (wr.alloc (.cells #[.string x.f0, .string x.f1, .int .i64 x.f2, .int .i64 x.f3, .int .i64 x.f4, .int .i64 x.f5] 58)).heap.size := by have := blk_lt HPC.out; simp; omega
      have HGL := Aside0.mk hlt
      have HSZ : Aside0 ((wr.alloc (.cells #[.string x.f0, .string x.f1, .int .i64 x.f2, .int .i64 x.f3, .int .i64 x.f4, .int .i64 x.f5] 58)).heap.size = wr.heap.size + 1) := ⟨by simp⟩
      have HLE := Aside0.mk (Nat.le_of_lt hlt)
      have hal : (((l0.take m).filter (fun x => decide (x.f4 = 0))).length + 1) * 64 ≤ 140737488355328 := by
       have e1 := List.length_filter_le (fun x : S58 => decide (x.f4 = 0)) (l0.take m)
       have e2 := List.length_filter_le (fun x : S58 => decide (x.f4 = 0)) l0
       have e3 := HL.out
       have e4 : (l0.take m).length ≤ l0.length := by rw [List.length_take]; omega
       omega
      have HAL := Aside0.mk hal
      clear hlt hal
      have hwm : wrap64 ((m : Int) + 1) = ((m + 1 : Nat) : Int) := by have := HL.out; unfold wrap64; omega
      have hwi : IntKind.i64.wrap ((m : Int) + 1) = ((m + 1 : Nat) : Int) := by have := HL.out; rw [IntKind.wrap_i64]; omega
      by_cases c : x.f4 = 0
      ·
       have d1 : (x.f4 == 0) = true := beq_iff_eq.mpr c
       have HCC := Aside0.mk c
       clear c
       go_wp2_with ((with_reducible refine gate_dst (N := 46) rfl ?_); refine Kd.R_append k58 (w0 := w) w.heap.size (by rfl) (.tmp 43) (.tmp 45) 43 58 (.agg #[(.string ⟨#[]⟩), (.string ⟨#[]⟩), (.int .i64 0), (.int .i64 0), (.int .i64 0), (.int .i64 0)]) 64 rfl Try.underlying43 info58 rfl (by decide) (by decide) u9 ((l0.take m).filter (fun x => decide (x.f4 = 0))) x [.string x.f0, .string x.f1, .int .i64 x.f2, .int .i64 x.f3, .int .i64 x.f4, .int .i64 x.f5] (fun k => k ≠ w.heap.size) (fun _ => False) rfl (by rw [HSZ.out]; rfl) (k58_mkM _ _ _ x) (fun _ hk => hk.elim) (fun k hk e => absurd HGL.out (by rw [e] at hk; exact Nat.not_lt.2 hk)) (Kd.R_alloc HO.out _) (below_alloc HB.out _) HLE.out HAL.out ?_; intro v1 w4 ho hb hg hat; have HO4 := Aside0.mk ho; have HB4 := Aside0.mk hb; have HPC4 : Aside0 (w4.heap[w.heap.size]? = some (.cells #[.slice none 0 0] 24 (0, 0))) := ⟨blk_grown (blk_alloc HPC.out _) hg (fun e => (HO.out.1 _ e.symm) rfl)⟩; clear ho hb hg hat HO HPC)
       go_roundg k2
       case measure => omega
       case rel =>
        have he : ((l0.take m).filter (fun x => decide (x.f4 = 0))) ++ [x] = (l0.take (m + 1)).filter (fun x => decide (x.f4 = 0)) := by
         rw [← List.take_append_getElem (l := l0) (i := m) (by omega), List.filter_append, HX2.out]
         simp [HCC.out]
        rw [he] at HO4
        exact ⟨m + 1, by omega, by rfl, HO4, HB4, HPC4⟩
      ·
       have d1 : (x.f4 == 0) = false := beq_eq_false_iff_ne.mpr c
       have HCC := Aside0.mk c
       clear c
       go_wp2
       go_roundg k2
       case measure => omega
       case rel =>
        have he : ((l0.take m).filter (fun x => decide (x.f4 = 0))) = (l0.take (m + 1)).filter (fun x => decide (x.f4 = 0)) := by
         rw [← List.take_append_getElem (l := l0) (i := m) (by omega), List.filter_append, HX2.out]
         simp [HCC.out]
        have HO5 := Aside0.mk (Kd.R_alloc HO.out (.cells #[.string x.f0, .string x.f1, .int .i64 x.f2, .int .i64 x.f3, .int .i64 x.f4, .int .i64 x.f5] 58))
        rw [he] at HO5
        exact ⟨m + 1, by omega, by rfl, HO5, ⟨below_alloc HB.out _⟩, ⟨blk_alloc HPC.out _⟩⟩
   ·
    rw [if_neg (by decide), if_pos rfl] at HO
    go_wp2
    go_loopg [9, 34] l0.length (fun kq v9 v34 w' => ∃ (m : Nat), m + kq = l0.length ∧ v34 = .int .i64 (m : Int) ∧ Aside0 (Kd.R k58 58 w' w.heap.size (fun k => k ≠ w.heap.size) v9 (locals l0 ++ (l0.take m).filter (fun x => !decide (x.f4 = 0)))) ∧ Aside0 (Below w.heap.size w w') ∧ Aside0 (w'.heap[w.heap.size]? = some (.cells #[.slice none 0 0] 24 (0, 0))))
    case atStart => exact ⟨0, by omega, rfl, ⟨by rw [List.take_zero, List.filter_nil, List.append_nil]; exact HO.out⟩, HB, HPC⟩
    case round =>
     clear HO HB HPC
     obtain ⟨m, hm, rfl, HO, HB, HPC⟩ := hrel
     cases gk with
     | zero =>
      obtain rfl : m = l0.length := by omega
      rw [List.take_length] at HO
      have dm : decide ((l0.length : Int) < (l0.length : Int)) = false := decide_eq_false (by omega)
      obtain ⟨A9, c9, rfl⟩ := Kd.R_slice HO.out
      have HO2 : Aside0 (Kd.R k58 58 wr w.heap.size (fun k => k ≠ w.heap.size) (.slice A9 (ordered l0).length c9) (ordered l0)) := HO
      rw [show (locals l0 ++ List.filter (fun x : S58 => !decide (x.f4 = 0)) l0).length = (ordered l0).length from rfl]
      go_wp2
      go_roundg k1
      case measure => omega
      case rel => exact ⟨2, by omega, by rfl, by rfl, HO2, HB, HPC⟩
     | succ k2 =>
      have dm : decide ((m : Int) < (l0.length : Int)) = true := decide_eq_true (by omega)
      obtain ⟨ad, rfl, hx0, hx1, hx2, hx3, hx4, hx5⟩ := at_T58 (Kd.C_below HR0.out HB.out) (m : Int) (by omega) (by omega)
      rw [Int.toNat_natCast] at hx0 hx1 hx2 hx3 hx4 hx5
      have HX2 : Aside0 ([l0[m]'(by omega)] = [rd_T58 l0 (m : Int)]) := ⟨by simp [rd_T58, List.getD, show m < l0.length by omega]⟩
      generalize rd_T58 l0 (m : Int) = x at *
      have hlt : w.heap.size < (wr.alloc (.cells #[.string x.f0, .string x.f1, .int .i64 x.f2, .int .i64 x.f3, .int .i64 x.f4, .int .i64 x.f5] 58)).heap.size := by have := blk_lt HPC.out; simp; omega
      have HGL := Aside0.mk hlt
      have HSZ : Aside0 ((wr.alloc (.cells #[.string x.f0, .string x.f1, .int .i64 x.f2, .int .i64 x.f3, .int .i64 x.f4, .int .i64 x.f5] 58)).heap.size = wr.heap.size + 1) := ⟨by simp⟩
      have HLE := Aside0.mk (Nat.le_of_lt hlt)
      have hal : ((locals l0 ++ (l0.take m).filter (fun x => !decide (x.f4 = 0))).length + 1) * 64 ≤ 140737488355328 := by
       have e1 := List.length_filter_le (fun x : S58 => !decide (x.f4 = 0)) (l0.take m)
       have e2 := List.length_filter_le (fun x : S58 => decide (x.f4 = 0)) l0
       have e3 := HL.out
       have e4 : (l0.take m).length ≤ l0.length := by rw [List.length_take]; omega
       rw [List.length_append]; unfold locals; omega
      have HAL := Aside0.mk hal
      clear hlt hal
      have hwm : wrap64 ((m : Int) + 1) = ((m + 1 : Nat) : Int) := by have := HL.out; unfold wrap64; omega
      have hwi : IntKind.i64.wrap ((m : Int) + 1) = ((m + 1 : Nat) : Int) := by have := HL.out; rw [IntKind.wrap_i64]; omega
      by_cases c : x.f4 = 0
      ·
       have d1 : (x.f4 == 0) = true := beq_iff_eq.mpr c
       have HCC := Aside0.mk c
       clear c
       go_wp2
       go_roundg k2
       case measure => omega
       case rel =>
        have he : (locals l0 ++ (l0.take m).filter (fun x => !decide (x.f4 = 0))) = locals l0 ++ (l0.take (m + 1)).filter (fun x => !decide (x.f4 = 0)) := by
         rw [← List.take_append_getElem (l := l0) (i := m) (by omega), List.filter_append, HX2.out]
         simp [HCC.out]
        have HO5 := Aside0.mk (Kd.R_alloc HO.out (.cells #[.string x.f0, .string x.f1, .int .i64 x.f2, .int .i64 x.f3, .int .i64 x.f4, .int .i64 x.f5] 58))
        rw [he] at HO5
        exact ⟨m + 1, by omega, by rfl, HO5, ⟨below_alloc HB.out _⟩, ⟨blk_alloc HPC.out _⟩⟩
      ·
       have d1 : (x.f4 == 0) = false := beq_eq_false_iff_ne.mpr c
       have HCC := Aside0.mk c
       clear c
       go_wp2_with ((with_reducible refine gate_dst (N := 46) rfl ?_); refine Kd.R_append k58 (w0 := w) w.heap.size (by rfl) (.tmp 43) (.tmp 45) 43 58 (.agg #[(.string ⟨#[]⟩), (.string ⟨#[]⟩), (.int .i64 0), (.int .i64 0), (.int .i64 0), (.int .i64 0)]) 64 rfl Try.underlying43 info58 rfl (by decide) (by decide) u9 (locals l0 ++ (l0.take m).filter (fun x => !decide (x.f4 = 0))) x [.string x.f0, .string x.f1, .int .i64 x.f2, .int .i64 x.f3, .int .i64 x.f4, .int .i64 x.f5] (fun k => k ≠ w.heap.size) (fun _ => False) rfl (by rw [HSZ.out]; rfl) (k58_mkM _ _ _ x) (fun _ hk => hk.elim) (fun k hk e => absurd HGL.out (by rw [e] at hk; exact Nat.not_lt.2 hk)) (Kd.R_alloc HO.out _) (below_alloc HB.out _) HLE.out HAL.out ?_; intro v1 w4 ho hb hg hat; have HO4 := Aside0.mk ho; have HB4 := Aside0.mk hb; have HPC4 : Aside0 (w4.heap[w.heap.size]? = some (.cells #[.slice none 0 0] 24 (0, 0))) := ⟨blk_grown (blk_alloc HPC.out _) hg (fun e => (HO.out.1 _ e.symm) rfl)⟩; clear ho hb hg hat HO HPC)
       go_roundg k2
       case measure => omega
       case rel =>
        have he : (locals l0 ++ (l0.take m).filter (fun x => !decide (x.f4 = 0))) ++ [x] = locals l0 ++ (l0.take (m + 1)).filter (fun x => !decide (x.f4 = 0)) := by
         rw [← List.take_append_getElem (l := l0) (i := m) (by omega), List.filter_append, HX2.out]
         simp [HCC.out]
        rw [he] at HO4
        exact ⟨m + 1, by omega, by rfl, HO4, HB4, HPC4⟩
end Go.Proofs.Ytejdnanhnkjaoaa.SymW
