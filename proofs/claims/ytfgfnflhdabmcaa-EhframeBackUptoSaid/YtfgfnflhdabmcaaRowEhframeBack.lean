/- EhframeBack: THE STAGE'S THEOREM: a pointer that was encoded, with anything ahead and behind, is decoded; a table that was written is read again, its functions' entries grouped by what they have in common (P14.7, without the document's bytes). Conditions: what comes in is together of bulk at most 1048576, as the statement says. Made by a driver of this session. -/
import Derived.Test.YtfgfnflhdabmcaaVB6
import Derived.WalkKit
import Derived.ProofKit
import Derived.OpenShut
import Derived.ShutString
import Derived.ChangeOld
import Derived.Below
import Derived.SizedLaws
import Derived.Deep.CondSized
namespace Go.Proofs.Ytfgfnflhdabmcaa.ehframeBack
open Go.ChangeShapes Go.WideShapes Go.ChangeAt Go.RowKit Go.Proofs.Ytfgfnflhdabmcaa.Opening Go.Proofs.Ytfgfnflhdabmcaa.G Go.Proofs.Ytfgfnflhdabmcaa.Stmt Go.Proofs.YtfgfnflhdabmcaaW.PrintWords
open Go.ChangeMaps (open_string shut_string)
set_option linter.unusedVariables false
set_option linter.unusedSimpArgs false
theorem own : ownKnob Try.prog.godebug = none := by kernel_rfl
theorem laidOut : laidOutB Try.prog = true := by kernel_rfl
theorem o97 : Opens Try.prog 97 k97 wf97 wt97 :=
  opens_struct (fun x : S97 => (x.f0, x.f1, x.f2)) (fun a => (⟨a.1, a.2.1, a.2.2⟩ : S97)) (fun _ => rfl) Try.underlying97 (by kernel_rfl) (opensF_cons (opens_int .i64 Try.underlying3 (by kernel_rfl)) rfl (opensF_cons (opens_int .i64 Try.underlying3 (by kernel_rfl)) rfl (opensF_one (opens_int .i64 Try.underlying3 (by kernel_rfl)) rfl) (by simp [Kd.int, Kd.bool, Kd.string, Kd.slice, Kd.scalar, Kd.iso, Kd.pair, k43, k61, k49])) (by simp [Kd.int, Kd.bool, Kd.string, Kd.slice, Kd.scalar, Kd.iso, Kd.pair, k43, k61, k49]))
theorem o43 : Opens Try.prog 43 k43 wf43 wt43 :=
  opens_struct (fun x : S43 => (x.f0, x.f1)) (fun a => (⟨a.1, a.2⟩ : S43)) (fun _ => rfl) Try.underlying43 (by kernel_rfl) (opensF_cons (opens_int .i64 Try.underlying3 (by kernel_rfl)) rfl (opensF_one (opens_slice o97 Try.underlying41 (by kernel_rfl) (by kernel_rfl)) rfl) (by simp [Kd.int, Kd.bool, Kd.string, Kd.slice, Kd.scalar, Kd.iso, Kd.pair, k97, k61, k49]))
theorem o61 : Opens Try.prog 61 k61 wf61 wt61 :=
  opens_struct (fun x : S61 => (x.f0, x.f1, x.f2, x.f3)) (fun a => (⟨a.1, a.2.1, a.2.2.1, a.2.2.2⟩ : S61)) (fun _ => rfl) Try.underlying61 (by kernel_rfl) (opensF_cons (opens_int .i64 Try.underlying3 (by kernel_rfl)) rfl (opensF_cons (opens_int .i64 Try.underlying3 (by kernel_rfl)) rfl (opensF_cons (opens_int .i64 Try.underlying3 (by kernel_rfl)) rfl (opensF_one (opens_slice o97 Try.underlying41 (by kernel_rfl) (by kernel_rfl)) rfl) (by simp [Kd.int, Kd.bool, Kd.string, Kd.slice, Kd.scalar, Kd.iso, Kd.pair, k97, k43, k49])) (by simp [Kd.int, Kd.bool, Kd.string, Kd.slice, Kd.scalar, Kd.iso, Kd.pair, k97, k43, k49])) (by simp [Kd.int, Kd.bool, Kd.string, Kd.slice, Kd.scalar, Kd.iso, Kd.pair, k97, k43, k49]))
theorem o49 : Opens Try.prog 49 k49 wf49 wt49 :=
  opens_struct (fun x : S49 => (x.f0, x.f1, x.f2, x.f3)) (fun a => (⟨a.1, a.2.1, a.2.2.1, a.2.2.2⟩ : S49)) (fun _ => rfl) Try.underlying49 (by kernel_rfl) (opensF_cons (opens_int .i64 Try.underlying3 (by kernel_rfl)) rfl (opensF_cons (opens_int .i64 Try.underlying3 (by kernel_rfl)) rfl (opensF_cons (opens_int .i64 Try.underlying3 (by kernel_rfl)) rfl (opensF_one (opens_int .i64 Try.underlying3 (by kernel_rfl)) rfl) (by simp [Kd.int, Kd.bool, Kd.string, Kd.slice, Kd.scalar, Kd.iso, Kd.pair, k97, k43, k61])) (by simp [Kd.int, Kd.bool, Kd.string, Kd.slice, Kd.scalar, Kd.iso, Kd.pair, k97, k43, k61])) (by simp [Kd.int, Kd.bool, Kd.string, Kd.slice, Kd.scalar, Kd.iso, Kd.pair, k97, k43, k61]))
set_option maxRecDepth 100000 in
theorem lifted (os : Os) (started : os.Started) (H : Type) (enc : TypeId × Value → H) (F : Stop.Interp) :
    ReturnsInHanded {} Try.checked os 6 .any ((Rows.OpenSpec.upto Rows.ehframeBackSpec).pre6 enc Try.prog Try.f6 Rows.ehframeBackUptoRow.domain false) (((Rows.OpenSpec.upto Rows.ehframeBackSpec).at F).post enc Try.prog Try.f6 false true false false) := by
  refine returnsInHanded_of_cond_sized (C := Try.checked) (s := Rows.OpenSpec.upto Rows.ehframeBackSpec) (k := Rows.uptoSmall) rfl own started (by kernel_rfl) Try.func6
    (OpenSpec.witness (enc := enc) (C := Try.checked) (s := Rows.OpenSpec.upto Rows.ehframeBackSpec) (k := Rows.uptoSmall) rfl false ⟨#[], #[.slice none 0 0, .slice none 0 0, .int .i64 0, .bool false, .agg #[.int .i64 0, .int .i64 0, .int .i64 0, .int .i64 0], .slice none 0 0, .slice none 0 0], []⟩ 8 (by kernel_rfl) (by kernel_rfl) (by kernel_rfl)
      (x := ([.nil, .nil, .lit (.int .i64 0), .lit (.bool false), .agg [.lit (.int .i64 0), .lit (.int .i64 0), .lit (.int .i64 0), .lit (.int .i64 0)], .nil, .nil], [], [])) (by kernel_rfl) rfl (by kernel_rfl)) ?_
  intro W base args ds gs before hval0 hW hcnd hk hsz0 _
  have hsz : (DataW.weightsEach Try.prog (Try.f6.params.toList ++ Rows.ehframeBackSpec.plain.varTypes Try.prog) (ds ++ gs)).all (· ≤ reachBytes) = true := hsz0
  have hval : ∀ (j : Nat) t v, Try.f6.params[j]? = some t → args[j]? = some v → Value.okWide Try.prog W .any base t v := hval0
  have hW' := hW
  obtain ⟨p, q, hA0, hV, rfl, hfz, hnd⟩ := hW
  have hA : DataW.TrodAll enc Try.prog W 0 (fun _ => true) true Try.f6.params.toList args.toList ds p := hA0
  rw [Try.params6] at hA hval hsz
  obtain ⟨v0, vs0, d0, ds0, p0, q0, hargs, rfl, rfl, h0, r0⟩ := trodAll_cons hA
  obtain ⟨v1, vs1, d1, ds1, p1, q1, rfl, rfl, rfl, h1, r1⟩ := trodAll_cons r0
  obtain ⟨v2, vs2, d2, ds2, p2, q2, rfl, rfl, rfl, h2, r2⟩ := trodAll_cons r1
  obtain ⟨v3, vs3, d3, ds3, p3, q3, rfl, rfl, rfl, h3, r3⟩ := trodAll_cons r2
  obtain ⟨v4, vs4, d4, ds4, p4, q4, rfl, rfl, rfl, h4, r4⟩ := trodAll_cons r3
  obtain ⟨v5, vs5, d5, ds5, p5, q5, rfl, rfl, rfl, h5, r5⟩ := trodAll_cons r4
  obtain ⟨v6, vs6, d6, ds6, p6, q6, rfl, rfl, rfl, h6, r6⟩ := trodAll_cons r5
  obtain ⟨rfl, rfl, rfl⟩ := trodAll_nil r6
  obtain rfl : args = #[v0, v1, v2, v3, v4, v5, v6] := by cases args; simp_all
  obtain ⟨rfl, rfl⟩ := trodVars_none hV
  have hkk : Rows.uptoBulkAll [d0, d1, d2, d3, d4, d5, d6] ≤ 1048576 := by have := of_decide_eq_true hk; simpa using this
  simp only [Rows.uptoBulkAll] at hkk
  obtain ⟨A0, len0, c0, rfl⟩ := okWide_slice Try.underlying22 (hval 0 22 v0 rfl rfl)
  have k0 := h0
  have lt0 : ∀ x ∈ p0, x.block < W.heap.size := by obtain ⟨m, hm⟩ := k0; exact DataW.trod_lt m _ _ _ hm
  obtain ⟨fu0, hf0⟩ := h0
  obtain ⟨l0, ⟨A_, c_, e0, hc0, hr0⟩, w0, b0⟩ := (opens_slice o43 Try.underlying22 (by kernel_rfl) (by kernel_rfl)).op hf0 (weights_of hsz (j := 0) (t := 22) rfl rfl)
  obtain ⟨rfl, rfl, rfl⟩ : A0 = A_ ∧ len0 = l0.length ∧ c0 = c_ := by simpa [Value.cells] using e0
  clear e0
  obtain ⟨A1, len1, c1, rfl⟩ := okWide_slice Try.underlying23 (hval 1 23 v1 rfl rfl)
  have k1 := h1
  have lt1 : ∀ x ∈ p1, x.block < W.heap.size := by obtain ⟨m, hm⟩ := k1; exact DataW.trod_lt m _ _ _ hm
  obtain ⟨fu1, hf1⟩ := h1
  obtain ⟨l1, ⟨A_, c_, e1, hc1, hr1⟩, w1, b1⟩ := (opens_slice o61 Try.underlying23 (by kernel_rfl) (by kernel_rfl)).op hf1 (weights_of hsz (j := 1) (t := 23) rfl rfl)
  obtain ⟨rfl, rfl, rfl⟩ : A1 = A_ ∧ len1 = l1.length ∧ c1 = c_ := by simpa [Value.cells] using e1
  clear e1
  obtain ⟨a2, rfl, rfl, rfl, w2⟩ := open_int Try.underlying3 (hval 2 3 v2 rfl rfl) h2
  obtain ⟨a3, rfl, rfl, rfl⟩ := open_bool Try.underlying4 (hval 3 4 v3 rfl rfl) h3
  have k4 := h4
  have lt4 : ∀ x ∈ p4, x.block < W.heap.size := by obtain ⟨m, hm⟩ := k4; exact DataW.trod_lt m _ _ _ hm
  obtain ⟨fu4, hf4⟩ := h4
  obtain ⟨a4, hK4, w4, b4⟩ := o49.op hf4 (weights_of hsz (j := 4) (t := 49) rfl rfl)
  obtain ⟨cs4, rfl, hs4⟩ := okWide_struct Try.underlying49 (hval 4 49 v4 rfl rfl)
  have K4_0 : k49.K W a4 cs4.toList := hK4
  obtain ⟨u4_0, t4_0, e4_0, f4_0, K4_1⟩ := K4_0
  obtain ⟨u4_1, t4_1, e4_1, f4_1, K4_2⟩ := K4_1
  obtain ⟨u4_2, t4_2, e4_2, f4_2, K4_3⟩ := K4_2
  have f4_3 := K4_3
  have g4_0 : u4_0 = [.int .i64 a4.f0] := f4_0
  have g4_1 : u4_1 = [.int .i64 a4.f1] := f4_1
  have g4_2 : u4_2 = [.int .i64 a4.f2] := f4_2
  have g4_3 : t4_2 = [.int .i64 a4.f3] := f4_3
  obtain rfl : cs4 = #[.int .i64 a4.f0, .int .i64 a4.f1, .int .i64 a4.f2, .int .i64 a4.f3] := by apply Array.toList_inj.1; rw [e4_0, e4_1, e4_2, g4_0, g4_1, g4_2, g4_3]; rfl
  obtain ⟨A5, len5, c5, rfl⟩ := okWide_slice Try.underlying28 (hval 5 28 v5 rfl rfl)
  have k5 := h5
  have lt5 : ∀ x ∈ p5, x.block < W.heap.size := by obtain ⟨m, hm⟩ := k5; exact DataW.trod_lt m _ _ _ hm
  obtain ⟨fu5, hf5⟩ := h5
  obtain ⟨l5, ⟨A_, c_, e5, hc5, hr5⟩, w5, b5⟩ := (opens_slice (opens_int .u8 Try.underlying5 (by kernel_rfl)) Try.underlying28 (by kernel_rfl) (by kernel_rfl)).op hf5 (weights_of hsz (j := 5) (t := 28) rfl rfl)
  obtain ⟨rfl, rfl, rfl⟩ : A5 = A_ ∧ len5 = l5.length ∧ c5 = c_ := by simpa [Value.cells] using e5
  clear e5
  obtain ⟨A6, len6, c6, rfl⟩ := okWide_slice Try.underlying28 (hval 6 28 v6 rfl rfl)
  have k6 := h6
  have lt6 : ∀ x ∈ p6, x.block < W.heap.size := by obtain ⟨m, hm⟩ := k6; exact DataW.trod_lt m _ _ _ hm
  obtain ⟨fu6, hf6⟩ := h6
  obtain ⟨l6, ⟨A_, c_, e6, hc6, hr6⟩, w6, b6⟩ := (opens_slice (opens_int .u8 Try.underlying5 (by kernel_rfl)) Try.underlying28 (by kernel_rfl) (by kernel_rfl)).op hf6 (weights_of hsz (j := 6) (t := 28) rfl rfl)
  obtain ⟨rfl, rfl, rfl⟩ : A6 = A_ ∧ len6 = l6.length ∧ c6 = c_ := by simpa [Value.cells] using e6
  clear e6
  have z0 : ((l0.map wt43).sum + 1) ≤ Rows.uptoBulk d0 := b0
  have z1 : ((l1.map wt61).sum + 1) ≤ Rows.uptoBulk d1 := b1
  have z4 : wt49 a4 ≤ Rows.uptoBulk d4 := b4
  have z5 : ((l5.map (fun y => 1)).sum + 1) ≤ Rows.uptoBulk d5 := b5
  have z6 : ((l6.map (fun y => 1)).sum + 1) ≤ Rows.uptoBulk d6 := b6
  have hbulk : ((l0.map wt43).sum + 1) + ((l1.map wt61).sum + 1) + 1 + 1 + wt49 a4 + ((l5.map (fun y => 1)).sum + 1) + ((l6.map (fun y => 1)).sum + 1) ≤ 1048576 := by
    simp only [Rows.uptoBulk, List.length_map, Array.length_toList] at hkk
    omega
  obtain ⟨k, h⟩ := (Pure.EhframeBack l0 l1 a2 a3 a4 l5 l6 w0 w1 w2 w4 w5 w6 hbulk)
  refine (G.gangwaylaw14_EhframeBack.calls k _ _ l0 _ _ l1 a2 a3 a4.f0 a4.f1 a4.f2 a4.f3 _ _ l5 _ _ l6 true W hr0 hc0 hr1 hc1  hr5 hc5 hr6 hc6 h).mono ?_
  rintro e W' ⟨rfl, bel⟩
  exact ⟨_, rfl, _, _, _, [], _, [], hW', trodAll_mk1 (shut_bool Try.underlying4 _), (trodAll_cons_mk (Below.trod laidOut (by kernel_rfl) (of_decide_eq_true (by kernel_rfl)) k0 bel lt0) (trodAll_cons_mk (Below.trod laidOut (by kernel_rfl) (of_decide_eq_true (by kernel_rfl)) k1 bel lt1) (trodAll_cons_mk (shut_int Try.underlying3 w2) (trodAll_cons_mk (shut_bool Try.underlying4 _) (trodAll_cons_mk (Below.trod laidOut (by kernel_rfl) (of_decide_eq_true (by kernel_rfl)) k4 bel lt4) (trodAll_cons_mk (Below.trod laidOut (by kernel_rfl) (of_decide_eq_true (by kernel_rfl)) k5 bel lt5) (trodAll_cons_mk (Below.trod laidOut (by kernel_rfl) (of_decide_eq_true (by kernel_rfl)) k6 bel lt6) trodAll_mk0))))))), rfl, bel.frame _, fun h => by cases h⟩
theorem over : Rows.ehframeBackUptoRow.holds Try.pinned (Rows.OpenSpec.upto Rows.ehframeBackSpec) :=
  OpenClaim.holds_of_cond 6 Try.f6 rfl rfl rfl rfl rfl rfl rfl ⟨rfl, rfl, rfl, rfl, rfl⟩ rfl rfl rfl rfl rfl (by kernel_rfl) Try.func6 (by kernel_rfl)
    (of_decide_eq_true (by kernel_rfl)) (by unfold Func.isWrapper; first | (rw [if_pos (by decide +kernel)]; kernel_rfl) | (rw [if_neg (by decide +kernel)]; exact ⟨rfl, rfl⟩))
    (fun os started H enc _ F => lifted os started H enc F)
theorem proved : Rows.EhframeBackUptoSaid := over
end Go.Proofs.Ytfgfnflhdabmcaa.ehframeBack
namespace Go.Proofs.Ytfgfnflhdabmcaa
/-- The row, under a short name, for the claim. -/
theorem ehframeBack_holds : Rows.EhframeBackUptoSaid := ehframeBack.proved
#print axioms ehframeBack_holds
end Go.Proofs.Ytfgfnflhdabmcaa
