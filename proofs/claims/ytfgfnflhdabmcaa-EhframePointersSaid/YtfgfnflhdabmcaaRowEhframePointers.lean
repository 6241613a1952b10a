/- EhframePointers: pointers in any encoding, as bytes and back (P14.1, P14.2: every Put and Get). Conditions: none beyond the row's own. Made by a driver of this session. -/
import Derived.Test.YtfgfnflhdabmcaaVP7
import Derived.WalkKit
import Derived.ProofKit
import Derived.OpenShut
import Derived.ShutString
import Derived.ChangeOld
import Derived.Below
import Derived.SizedLaws
import Derived.Deep.CondSized
namespace Go.Proofs.Ytfgfnflhdabmcaa.ehframePointers
open Go.ChangeShapes Go.WideShapes Go.ChangeAt Go.RowKit Go.Proofs.Ytfgfnflhdabmcaa.Opening Go.Proofs.Ytfgfnflhdabmcaa.G Go.Proofs.Ytfgfnflhdabmcaa.Stmt Go.Proofs.YtfgfnflhdabmcaaW.PrintWords
open Go.ChangeMaps (open_string shut_string)
set_option linter.unusedVariables false
set_option linter.unusedSimpArgs false
theorem own : ownKnob Try.prog.godebug = none := by kernel_rfl
theorem laidOut : laidOutB Try.prog = true := by kernel_rfl
theorem o49 : Opens Try.prog 49 k49 wf49 wt49 :=
  opens_struct (fun x : S49 => (x.f0, x.f1, x.f2, x.f3)) (fun a => (⟨a.1, a.2.1, a.2.2.1, a.2.2.2⟩ : S49)) (fun _ => rfl) Try.underlying49 (by kernel_rfl) (opensF_cons (opens_int .i64 Try.underlying3 (by kernel_rfl)) rfl (opensF_cons (opens_int .i64 Try.underlying3 (by kernel_rfl)) rfl (opensF_cons (opens_int .i64 Try.underlying3 (by kernel_rfl)) rfl (opensF_one (opens_int .i64 Try.underlying3 (by kernel_rfl)) rfl) (by simp [Kd.int, Kd.bool, Kd.string, Kd.slice, Kd.scalar, Kd.iso, Kd.pair])) (by simp [Kd.int, Kd.bool, Kd.string, Kd.slice, Kd.scalar, Kd.iso, Kd.pair])) (by simp [Kd.int, Kd.bool, Kd.string, Kd.slice, Kd.scalar, Kd.iso, Kd.pair]))
set_option maxRecDepth 100000 in
theorem lifted (os : Os) (started : os.Started) (H : Type) (enc : TypeId × Value → H) :
    ReturnsInHanded {} Try.checked os 5 .any (Rows.ehframePointersSpec.pre6 enc Try.prog Try.f5 Rows.ehframePointersRow.domain false) (Rows.ehframePointersSpec.post enc Try.prog Try.f5 false true false false) := by
  refine returnsInHanded_of_change_sized (C := Try.checked) own started (by kernel_rfl) Try.func5
    (ChangeSpec.witness6 (enc := enc) (C := Try.checked) false ⟨#[], #[.agg #[.int .i64 0, .int .i64 0, .int .i64 0, .int .i64 0], .slice none 0 0, .int .i64 0], []⟩ 8 (by kernel_rfl) (by kernel_rfl) (by kernel_rfl) (by kernel_rfl)) ?_
  intro W base args ds gs before hval0 hW hcnd hsz0 _
  have hsz : (DataW.weightsEach Try.prog (Try.f5.params.toList ++ Rows.ehframePointersSpec.plain.varTypes Try.prog) (ds ++ gs)).all (· ≤ reachBytes) = true := hsz0
  have hval : ∀ (j : Nat) t v, Try.f5.params[j]? = some t → args[j]? = some v → Value.okWide Try.prog W .any base t v := hval0
  have hW' := hW
  obtain ⟨p, q, hA0, hV, rfl, hfz, hnd⟩ := hW
  have hA : DataW.TrodAll enc Try.prog W 0 (fun _ => true) true Try.f5.params.toList args.toList ds p := hA0
  rw [Try.params5] at hA hval hsz
  obtain ⟨v0, vs0, d0, ds0, p0, q0, hargs, rfl, rfl, h0, r0⟩ := trodAll_cons hA
  obtain ⟨v1, vs1, d1, ds1, p1, q1, rfl, rfl, rfl, h1, r1⟩ := trodAll_cons r0
  obtain ⟨v2, vs2, d2, ds2, p2, q2, rfl, rfl, rfl, h2, r2⟩ := trodAll_cons r1
  obtain ⟨rfl, rfl, rfl⟩ := trodAll_nil r2
  obtain rfl : args = #[v0, v1, v2] := by cases args; simp_all
  obtain ⟨rfl, rfl⟩ := trodVars_none hV
  have k0 := h0
  have lt0 : ∀ x ∈ p0, x.block < W.heap.size := by obtain ⟨m, hm⟩ := k0; exact DataW.trod_lt m _ _ _ hm
  obtain ⟨fu0, hf0⟩ := h0
  obtain ⟨a0, hK0, w0, b0⟩ := o49.op hf0 (weights_of hsz (j := 0) (t := 49) rfl rfl)
  obtain ⟨cs0, rfl, hs0⟩ := okWide_struct Try.underlying49 (hval 0 49 v0 rfl rfl)
  have K0_0 : k49.K W a0 cs0.toList := hK0
  obtain ⟨u0_0, t0_0, e0_0, f0_0, K0_1⟩ := K0_0
  obtain ⟨u0_1, t0_1, e0_1, f0_1, K0_2⟩ := K0_1
  obtain ⟨u0_2, t0_2, e0_2, f0_2, K0_3⟩ := K0_2
  have f0_3 := K0_3
  have g0_0 : u0_0 = [.int .i64 a0.f0] := f0_0
  have g0_1 : u0_1 = [.int .i64 a0.f1] := f0_1
  have g0_2 : u0_2 = [.int .i64 a0.f2] := f0_2
  have g0_3 : t0_2 = [.int .i64 a0.f3] := f0_3
  obtain rfl : cs0 = #[.int .i64 a0.f0, .int .i64 a0.f1, .int .i64 a0.f2, .int .i64 a0.f3] := by apply Array.toList_inj.1; rw [e0_0, e0_1, e0_2, g0_0, g0_1, g0_2, g0_3]; rfl
  obtain ⟨A1, len1, c1, rfl⟩ := okWide_slice Try.underlying28 (hval 1 28 v1 rfl rfl)
  have k1 := h1
  have lt1 : ∀ x ∈ p1, x.block < W.heap.size := by obtain ⟨m, hm⟩ := k1; exact DataW.trod_lt m _ _ _ hm
  obtain ⟨fu1, hf1⟩ := h1
  obtain ⟨l1, ⟨A_, c_, e1, hc1, hr1⟩, w1, b1⟩ := (opens_slice (opens_int .u8 Try.underlying5 (by kernel_rfl)) Try.underlying28 (by kernel_rfl) (by kernel_rfl)).op hf1 (weights_of hsz (j := 1) (t := 28) rfl rfl)
  obtain ⟨rfl, rfl, rfl⟩ : A1 = A_ ∧ len1 = l1.length ∧ c1 = c_ := by simpa [Value.cells] using e1
  clear e1
  obtain ⟨a2, rfl, rfl, rfl, w2⟩ := open_int Try.underlying3 (hval 2 3 v2 rfl rfl) h2
  obtain ⟨k, h⟩ := (Pure.EhframePointers a0 l1 a2 w0 w1 w2)
  refine (G.gangwaylaw14_EhframePointers.calls k a0.f0 a0.f1 a0.f2 a0.f3 _ _ l1 a2 true W  hr1 hc1 h).mono ?_
  rintro e W' ⟨rfl, bel⟩
  exact ⟨_, rfl, _, _, _, [], _, [], hW', trodAll_mk1 (shut_bool Try.underlying4 _), (trodAll_cons_mk (Below.trod laidOut (by kernel_rfl) (of_decide_eq_true (by kernel_rfl)) k0 bel lt0) (trodAll_cons_mk (Below.trod laidOut (by kernel_rfl) (of_decide_eq_true (by kernel_rfl)) k1 bel lt1) (trodAll_cons_mk (shut_int Try.underlying3 w2) trodAll_mk0))), rfl, bel.frame _, fun h => by cases h⟩
theorem over : Rows.ehframePointersRow.holds Try.pinned (OpenSpec.ofChange Rows.ehframePointersSpec) :=
  OpenClaim.holds_of_wide 5 Try.f5 rfl rfl rfl rfl rfl rfl rfl ⟨rfl, rfl, rfl, rfl, rfl⟩ rfl rfl rfl rfl rfl (by kernel_rfl) Try.func5 (by kernel_rfl)
    (of_decide_eq_true (by kernel_rfl)) (by unfold Func.isWrapper; first | (rw [if_pos (by decide +kernel)]; kernel_rfl) | (rw [if_neg (by decide +kernel)]; exact ⟨rfl, rfl⟩))
    (fun os started H enc _ => lifted os started H enc)
theorem proved : Rows.EhframePointersSaid := over
end Go.Proofs.Ytfgfnflhdabmcaa.ehframePointers
namespace Go.Proofs.Ytfgfnflhdabmcaa
/-- The row, under a short name, for the claim. -/
theorem ehframePointers_holds : Rows.EhframePointersSaid := ehframePointers.proved
#print axioms ehframePointers_holds
end Go.Proofs.Ytfgfnflhdabmcaa
