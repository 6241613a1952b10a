/- ResolveMore: one object more takes no strong meaning away (P18.8, without the document's answer). Conditions: none beyond the row's own. Made by a driver of this session. -/
import Derived.Test.YtibkcnlcmempgaaVM4
import Derived.WalkKit
import Derived.ProofKit
import Derived.OpenShut
import Derived.ShutString
import Derived.ChangeOld
import Derived.Below
import Derived.SizedLaws
import Derived.Deep.CondSized
namespace Go.Proofs.Ytibkcnlcmempgaa.resolveMore
open Go.ChangeShapes Go.WideShapes Go.ChangeAt Go.RowKit Go.Proofs.Ytibkcnlcmempgaa.Opening Go.Proofs.Ytibkcnlcmempgaa.G Go.Proofs.Ytibkcnlcmempgaa.Stmt Go.Proofs.YtibkcnlcmempgaaW.PrintWords
open Go.ChangeMaps (open_string shut_string)
set_option linter.unusedVariables false
set_option linter.unusedSimpArgs false
theorem own : ownKnob Try.prog.godebug = none := by kernel_rfl
theorem laidOut : laidOutB Try.prog = true := by kernel_rfl
theorem o146 : Opens Try.prog 146 k146 wf146 wt146 :=
  opens_struct (fun x : S146 => (x.f0, x.f1, x.f2, x.f3)) (fun a => (⟨a.1, a.2.1, a.2.2.1, a.2.2.2⟩ : S146)) (fun _ => rfl) Try.underlying146 (by kernel_rfl) (opensF_cons (opens_int .i64 Try.underlying3 (by kernel_rfl)) rfl (opensF_cons (opens_int .i64 Try.underlying3 (by kernel_rfl)) rfl (opensF_cons (opens_string Try.underlying9 (by kernel_rfl)) rfl (opensF_one (opens_int .i64 Try.underlying3 (by kernel_rfl)) rfl) (by simp [Kd.int, Kd.bool, Kd.string, Kd.slice, Kd.scalar, Kd.iso, Kd.pair, k72, k38, k36])) (by simp [Kd.int, Kd.bool, Kd.string, Kd.slice, Kd.scalar, Kd.iso, Kd.pair, k72, k38, k36])) (by simp [Kd.int, Kd.bool, Kd.string, Kd.slice, Kd.scalar, Kd.iso, Kd.pair, k72, k38, k36]))
theorem o72 : Opens Try.prog 72 k72 wf72 wt72 :=
  opens_struct (fun x : S72 => (x.f0, x.f1, x.f2, x.f3, x.f4, x.f5, x.f6)) (fun a => (⟨a.1, a.2.1, a.2.2.1, a.2.2.2.1, a.2.2.2.2.1, a.2.2.2.2.2.1, a.2.2.2.2.2.2⟩ : S72)) (fun _ => rfl) Try.underlying72 (by kernel_rfl) (opensF_cons (opens_string Try.underlying9 (by kernel_rfl)) rfl (opensF_cons (opens_int .i64 Try.underlying3 (by kernel_rfl)) rfl (opensF_cons (opens_int .i64 Try.underlying3 (by kernel_rfl)) rfl (opensF_cons (opens_int .i64 Try.underlying3 (by kernel_rfl)) rfl (opensF_cons (opens_slice (opens_int .u8 Try.underlying5 (by kernel_rfl)) Try.underlying69 (by kernel_rfl) (by kernel_rfl)) rfl (opensF_cons (opens_int .i64 Try.underlying3 (by kernel_rfl)) rfl (opensF_one (opens_slice o146 Try.underlying70 (by kernel_rfl) (by kernel_rfl)) rfl) (by simp [Kd.int, Kd.bool, Kd.string, Kd.slice, Kd.scalar, Kd.iso, Kd.pair, k146, k38, k36])) (by simp [Kd.int, Kd.bool, Kd.string, Kd.slice, Kd.scalar, Kd.iso, Kd.pair, k146, k38, k36])) (by simp [Kd.int, Kd.bool, Kd.string, Kd.slice, Kd.scalar, Kd.iso, Kd.pair, k146, k38, k36])) (by simp [Kd.int, Kd.bool, Kd.string, Kd.slice, Kd.scalar, Kd.iso, Kd.pair, k146, k38, k36])) (by simp [Kd.int, Kd.bool, Kd.string, Kd.slice, Kd.scalar, Kd.iso, Kd.pair, k146, k38, k36])) (by simp [Kd.int, Kd.bool, Kd.string, Kd.slice, Kd.scalar, Kd.iso, Kd.pair, k146, k38, k36]))
theorem o38 : Opens Try.prog 38 k38 wf38 wt38 :=
  opens_struct (fun x : S38 => (x.f0, x.f1, x.f2, x.f3, x.f4, x.f5)) (fun a => (⟨a.1, a.2.1, a.2.2.1, a.2.2.2.1, a.2.2.2.2.1, a.2.2.2.2.2⟩ : S38)) (fun _ => rfl) Try.underlying38 (by kernel_rfl) (opensF_cons (opens_string Try.underlying9 (by kernel_rfl)) rfl (opensF_cons (opens_string Try.underlying9 (by kernel_rfl)) rfl (opensF_cons (opens_int .i64 Try.underlying3 (by kernel_rfl)) rfl (opensF_cons (opens_int .i64 Try.underlying3 (by kernel_rfl)) rfl (opensF_cons (opens_int .i64 Try.underlying3 (by kernel_rfl)) rfl (opensF_one (opens_int .i64 Try.underlying3 (by kernel_rfl)) rfl) (by simp [Kd.int, Kd.bool, Kd.string, Kd.slice, Kd.scalar, Kd.iso, Kd.pair, k146, k72, k36])) (by simp [Kd.int, Kd.bool, Kd.string, Kd.slice, Kd.scalar, Kd.iso, Kd.pair, k146, k72, k36])) (by simp [Kd.int, Kd.bool, Kd.string, Kd.slice, Kd.scalar, Kd.iso, Kd.pair, k146, k72, k36])) (by simp [Kd.int, Kd.bool, Kd.string, Kd.slice, Kd.scalar, Kd.iso, Kd.pair, k146, k72, k36])) (by simp [Kd.int, Kd.bool, Kd.string, Kd.slice, Kd.scalar, Kd.iso, Kd.pair, k146, k72, k36]))
theorem o36 : Opens Try.prog 36 k36 wf36 wt36 :=
  opens_struct (fun x : S36 => (x.f0, x.f1)) (fun a => (⟨a.1, a.2⟩ : S36)) (fun _ => rfl) Try.underlying36 (by kernel_rfl) (opensF_cons (opens_slice o72 Try.underlying33 (by kernel_rfl) (by kernel_rfl)) rfl (opensF_one (opens_slice o38 Try.underlying34 (by kernel_rfl) (by kernel_rfl)) rfl) (by simp [Kd.int, Kd.bool, Kd.string, Kd.slice, Kd.scalar, Kd.iso, Kd.pair, k146, k72, k38]))
set_option maxRecDepth 100000 in
theorem lifted (os : Os) (started : os.Started) (H : Type) (enc : TypeId × Value → H) :
    ReturnsInHanded {} Try.checked os 5 .any (Rows.resolveMoreSpec.pre6 enc Try.prog Try.f5 Rows.resolveMoreRow.domain false) (Rows.resolveMoreSpec.post enc Try.prog Try.f5 false true false false) := by
  refine returnsInHanded_of_change_sized (C := Try.checked) own started (by kernel_rfl) Try.func5
    (ChangeSpec.witness6 (enc := enc) (C := Try.checked) false ⟨#[], #[.slice none 0 0, .agg #[.slice none 0 0, .slice none 0 0]], []⟩ 8 (by kernel_rfl) (by kernel_rfl) (by kernel_rfl) (by kernel_rfl)) ?_
  intro W base args ds gs before hval0 hW hcnd hsz0 _
  have hsz : (DataW.weightsEach Try.prog (Try.f5.params.toList ++ Rows.resolveMoreSpec.plain.varTypes Try.prog) (ds ++ gs)).all (· ≤ reachBytes) = true := hsz0
  have hval : ∀ (j : Nat) t v, Try.f5.params[j]? = some t → args[j]? = some v → Value.okWide Try.prog W .any base t v := hval0
  have hW' := hW
  obtain ⟨p, q, hA0, hV, rfl, hfz, hnd⟩ := hW
  have hA : DataW.TrodAll enc Try.prog W 0 (fun _ => true) true Try.f5.params.toList args.toList ds p := hA0
  rw [Try.params5] at hA hval hsz
  obtain ⟨v0, vs0, d0, ds0, p0, q0, hargs, rfl, rfl, h0, r0⟩ := trodAll_cons hA
  obtain ⟨v1, vs1, d1, ds1, p1, q1, rfl, rfl, rfl, h1, r1⟩ := trodAll_cons r0
  obtain ⟨rfl, rfl, rfl⟩ := trodAll_nil r1
  obtain rfl : args = #[v0, v1] := by cases args; simp_all
  obtain ⟨rfl, rfl⟩ := trodVars_none hV
  obtain ⟨A0, len0, c0, rfl⟩ := okWide_slice Try.underlying22 (hval 0 22 v0 rfl rfl)
  have k0 := h0
  have lt0 : ∀ x ∈ p0, x.block < W.heap.size := by obtain ⟨m, hm⟩ := k0; exact DataW.trod_lt m _ _ _ hm
  obtain ⟨fu0, hf0⟩ := h0
  obtain ⟨l0, ⟨A_, c_, e0, hc0, hr0⟩, w0, b0⟩ := (opens_slice o36 Try.underlying22 (by kernel_rfl) (by kernel_rfl)).op hf0 (weights_of hsz (j := 0) (t := 22) rfl rfl)
  obtain ⟨rfl, rfl, rfl⟩ : A0 = A_ ∧ len0 = l0.length ∧ c0 = c_ := by simpa [Value.cells] using e0
  clear e0
  have k1 := h1
  have lt1 : ∀ x ∈ p1, x.block < W.heap.size := by obtain ⟨m, hm⟩ := k1; exact DataW.trod_lt m _ _ _ hm
  obtain ⟨fu1, hf1⟩ := h1
  obtain ⟨a1, hK1, w1, b1⟩ := o36.op hf1 (weights_of hsz (j := 1) (t := 36) rfl rfl)
  obtain ⟨cs1, rfl, hs1⟩ := okWide_struct Try.underlying36 (hval 1 36 v1 rfl rfl)
  have K1_0 : k36.K W a1 cs1.toList := hK1
  obtain ⟨u1_0, t1_0, e1_0, f1_0, K1_1⟩ := K1_0
  have f1_1 := K1_1
  obtain ⟨A1_0, c1_0, g1_0, hc1_0, hr1_0⟩ := f1_0
  obtain ⟨A1_1, c1_1, g1_1, hc1_1, hr1_1⟩ := f1_1
  obtain rfl : cs1 = #[.slice A1_0 a1.f0.length c1_0, .slice A1_1 a1.f1.length c1_1] := by apply Array.toList_inj.1; rw [e1_0, g1_0, g1_1]; rfl
  have h := (Pure.ResolveMore l0 a1 w0 w1)
  refine (G.gangwaylaw18_ResolveMore.calls _ _ l0 _ _ a1.f0 _ _ a1.f1 true W hr0 hc0 hr1_0 hc1_0 hr1_1 hc1_1 h).mono ?_
  rintro e W' ⟨rfl, bel⟩
  exact ⟨_, rfl, _, _, _, [], _, [], hW', trodAll_mk1 (shut_bool Try.underlying4 _), (trodAll_cons_mk (Below.trod laidOut (by kernel_rfl) (of_decide_eq_true (by kernel_rfl)) k0 bel lt0) (trodAll_cons_mk (Below.trod laidOut (by kernel_rfl) (of_decide_eq_true (by kernel_rfl)) k1 bel lt1) trodAll_mk0)), rfl, bel.frame _, fun h => by cases h⟩
theorem over : Rows.resolveMoreRow.holds Try.pinned (OpenSpec.ofChange Rows.resolveMoreSpec) :=
  OpenClaim.holds_of_wide 5 Try.f5 rfl rfl rfl rfl rfl rfl rfl ⟨rfl, rfl, rfl, rfl, rfl⟩ rfl rfl rfl rfl rfl (by kernel_rfl) Try.func5 (by kernel_rfl)
    (of_decide_eq_true (by kernel_rfl)) (by unfold Func.isWrapper; first | (rw [if_pos (by decide +kernel)]; kernel_rfl) | (rw [if_neg (by decide +kernel)]; exact ⟨rfl, rfl⟩))
    (fun os started H enc _ => lifted os started H enc)
theorem proved : Rows.ResolveMoreSaid := over
end Go.Proofs.Ytibkcnlcmempgaa.resolveMore
namespace Go.Proofs.Ytibkcnlcmempgaa
/-- The row, under a short name, for the claim. -/
theorem resolveMore_holds : Rows.ResolveMoreSaid := resolveMore.proved
#print axioms resolveMore_holds
end Go.Proofs.Ytibkcnlcmempgaa
