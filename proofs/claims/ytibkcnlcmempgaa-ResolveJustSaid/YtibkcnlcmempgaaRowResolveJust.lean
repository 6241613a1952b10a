/- ResolveJust: THE STAGE'S THEOREM: linking fails just if a name is strongly defined twice, a strong reference has no definition, or types or sections do not agree; and what a name means is a definition of it, strong if there is one (P18.6, P18.9, without the document's answer). Conditions: none beyond the row's own. Made by a driver of this session. -/
import Derived.Test.YtibkcnlcmempgaaVJ7
import Derived.WalkKit
import Derived.ProofKit
import Derived.OpenShut
import Derived.ShutString
import Derived.ChangeOld
import Derived.Below
import Derived.SizedLaws
import Derived.Deep.CondSized
namespace Go.Proofs.Ytibkcnlcmempgaa.resolveJust
open Go.ChangeShapes Go.WideShapes Go.ChangeAt Go.RowKit Go.Proofs.Ytibkcnlcmempgaa.Opening Go.Proofs.Ytibkcnlcmempgaa.G Go.Proofs.Ytibkcnlcmempgaa.Stmt Go.Proofs.YtibkcnlcmempgaaW.PrintWords
open Go.ChangeMaps (open_string shut_string)
set_option linter.unusedVariables false
set_option linter.unusedSimpArgs false
theorem own : ownKnob Try.prog.godebug = none := by kernel_rfl
theorem laidOut : laidOutB Try.prog = true := by kernel_rfl
theorem o146 : Opens Try.prog 146 k146 wf146 wt146 :=
  opens_struct (fun x : S146 => (x.f0, x.f1, x.f2, x.f3)) (fun a => (⟨a.1, a.2.1, a.2.2.1, a.2.2.2⟩ : S146)) (fun _ => rfl) Try.underlying146 (by kernel_rfl) (opensF_cons (opens_int .i64 Try.underlying3 (by kernel_rfl)) rfl (opensF_cons (opens_int .i64 Try.underlying3 (by kernel_rfl)) rfl (opensF_cons (opens_string Try.underlying9 (by kernel_rfl)) rfl (opensF_one (opens_int .i64 Try.underlying3 (by kernel_rfl)) rfl) (by simp [Kd.int, Kd.bool, Kd.string, Kd.slice, Kd.scalar, Kd.iso, Kd.pair, k72, k38, k36])) (by simp [Kd.int, Kd.bool, Kd.string, Kd.slice, Kd.scalar, Kd.iso, Kd.pair, k72, k38, k36])) (by simp [Kd.int, Kd.bool, Kd.string, Kd.slice, Kd.scalar, Kd.iso, Kd.pair, k72, k38, k36]))
theorem o72 : Opens Try.prog 72 k72 wf72 wt72 :=
  opens_struct (fun x : S72 => (x.f0, x.f1, x.f2, x.f3, x.f4, x.f5, x.f6)) (fun a => (⟨a.1, a.2.1, a.2.2.1, a.2.2.2.1, a.2.2.2.2.1, a.2.2.2.2.2.1, a.2.2.2.2.2.2⟩ : S72)) (fun _ => rfl) Try.underlying72 (by kernel_rfl) (opensF_cons (opens_string Try.underlying9 (by kernel_rfl)) rfl (opensF_cons (opens_int .i64 Try.underlying3 (by kernel_rfl)) rfl (opensF_cons (opens_int .i64 Try.underlying3 (by kernel_rfl)) rfl (opensF_cons (opens_int .i64 Try.underlying3 (by kernel_rfl)) rfl (opensF_cons (opens_slice (opens_int .u8 Try.underlying5 (by kernel_rfl)) Try.underlying69 (by kernel_rfl) (by kernel_rfl)) rfl (opensF_cons (opens_int .i64 Try.underlying3 (by kernel_rfl)) rfl (opensF_one (opens_slice o146 Try.underlying70 (by kernel_rfl) (by kernel_rfl)) rfl) (by simp [Kd.int, Kd.bool, Kd.string, Kd.slice, Kd.scalar, Kd.iso, Kd.pair, k146, k38, k36])) (by simp [Kd.int, Kd.bool, Kd.string, Kd.slice, Kd.scalar, Kd.iso, Kd.pair, k146, k38, k36])) (by simp [Kd.int, Kd.bool, Kd.string, Kd.slice, Kd.scalar, Kd.iso, Kd.pair, k146, k38, k36])) (by simp [Kd.int, Kd.bool, Kd.string, Kd.slice, Kd.scalar, Kd.iso, Kd.pair, k146, k38, k36])) (by simp [Kd.int, Kd.bool, Kd.string, Kd.slice, Kd.scalar, Kd.iso, Kd.pair, k146, k38, k36])) (by simp [Kd.int, Kd.bool, Kd.string, Kd.slice, Kd.scalar, Kd.iso, Kd.pair, k146, k38, k36]))
theorem o38 : Opens Try.prog 38 k38 wf38 wt38 :=
  opens_struct (fun x : S38 => (x.f0, x.f1, x.f2, x.f3, x.f4, x.f5)) (fun a => (⟨a.1, a.2.1, a.2.2.1, a.2.2.2.1, a.2.2.2.2.1, a.2.2.2.2.2⟩ : S38)) (fun _ => rfl) Try.underlying38 (by kernel_rfl) (opensF_cons (opens_string Try.underlying9 (by kernel_rfl)) rfl (opensF_cons (opens_string Try.underlying9 (by kernel_rfl)) rfl (opensF_cons (opens_int .i64 Try.underlying3 (by kernel_rfl)) rfl (opensF_cons (opens_int .i64 Try.underlying3 (by kernel_rfl)) rfl (opensF_cons (opens_int .i64 Try.underlying3 (by kernel_rfl)) rfl (opensF_one (opens_int .i64 Try.underlying3 (by kernel_rfl)) rfl) (by simp [Kd.int, Kd.bool, Kd.string, Kd.slice, Kd.scalar, Kd.iso, Kd.pair, k146, k72, k36])) (by simp [Kd.int, Kd.bool, Kd.string, Kd.slice, Kd.scalar, Kd.iso, Kd.pair, k146, k72, k36])) (by simp [Kd.int, Kd.bool, Kd.string, Kd.slice, Kd.scalar, Kd.iso, Kd.pair, k146, k72, k36])) (by simp [Kd.int, Kd.bool, Kd.string, Kd.slice, Kd.scalar, Kd.iso, Kd.pair, k146, k72, k36])) (by simp [Kd.int, Kd.bool, Kd.string, Kd.slice, Kd.scalar, Kd.iso, Kd.pair, k146, k72, k36]))
theorem o36 : Opens Try.prog 36 k36 wf36 wt36 :=
  opens_struct (fun x : S36 => (x.f0, x.f1)) (fun a => (⟨a.1, a.2⟩ : S36)) (fun _ => rfl) Try.underlying36 (by kernel_rfl) (opensF_cons (opens_slice o72 Try.underlying33 (by kernel_rfl) (by kernel_rfl)) rfl (opensF_one (opens_slice o38 Try.underlying34 (by kernel_rfl) (by kernel_rfl)) rfl) (by simp [Kd.int, Kd.bool, Kd.string, Kd.slice, Kd.scalar, Kd.iso, Kd.pair, k146, k72, k38]))
set_option maxRecDepth 100000 in
theorem lifted (os : Os) (started : os.Started) (H : Type) (enc : TypeId × Value → H) :
    ReturnsInHanded {} Try.checked os 3 .any (Rows.resolveJustSpec.pre6 enc Try.prog Try.f3 Rows.resolveJustRow.domain false) (Rows.resolveJustSpec.post enc Try.prog Try.f3 false true false false) := by
  refine returnsInHanded_of_change_sized (C := Try.checked) own started (by kernel_rfl) Try.func3
    (ChangeSpec.witness6 (enc := enc) (C := Try.checked) false ⟨#[], #[.slice none 0 0], []⟩ 8 (by kernel_rfl) (by kernel_rfl) (by kernel_rfl) (by kernel_rfl)) ?_
  intro W base args ds gs before hval0 hW hcnd hsz0 _
  have hsz : (DataW.weightsEach Try.prog (Try.f3.params.toList ++ Rows.resolveJustSpec.plain.varTypes Try.prog) (ds ++ gs)).all (· ≤ reachBytes) = true := hsz0
  have hval : ∀ (j : Nat) t v, Try.f3.params[j]? = some t → args[j]? = some v → Value.okWide Try.prog W .any base t v := hval0
  have hW' := hW
  obtain ⟨p, q, hA0, hV, rfl, hfz, hnd⟩ := hW
  have hA : DataW.TrodAll enc Try.prog W 0 (fun _ => true) true Try.f3.params.toList args.toList ds p := hA0
  rw [Try.params3] at hA hval hsz
  obtain ⟨v0, vs0, d0, ds0, p0, q0, hargs, rfl, rfl, h0, r0⟩ := trodAll_cons hA
  obtain ⟨rfl, rfl, rfl⟩ := trodAll_nil r0
  obtain rfl : args = #[v0] := by cases args; simp_all
  obtain ⟨rfl, rfl⟩ := trodVars_none hV
  obtain ⟨A0, len0, c0, rfl⟩ := okWide_slice Try.underlying22 (hval 0 22 v0 rfl rfl)
  have k0 := h0
  have lt0 : ∀ x ∈ p0, x.block < W.heap.size := by obtain ⟨m, hm⟩ := k0; exact DataW.trod_lt m _ _ _ hm
  obtain ⟨fu0, hf0⟩ := h0
  obtain ⟨l0, ⟨A_, c_, e0, hc0, hr0⟩, w0, b0⟩ := (opens_slice o36 Try.underlying22 (by kernel_rfl) (by kernel_rfl)).op hf0 (weights_of hsz (j := 0) (t := 22) rfl rfl)
  obtain ⟨rfl, rfl, rfl⟩ : A0 = A_ ∧ len0 = l0.length ∧ c0 = c_ := by simpa [Value.cells] using e0
  clear e0
  obtain ⟨k, h⟩ := (Pure.ResolveJust l0 w0)
  refine (G.gangwaylaw18_ResolveJust.calls k _ _ l0 true W hr0 hc0 h).mono ?_
  rintro e W' ⟨rfl, bel⟩
  exact ⟨_, rfl, _, _, _, [], _, [], hW', trodAll_mk1 (shut_bool Try.underlying4 _), (trodAll_cons_mk (Below.trod laidOut (by kernel_rfl) (of_decide_eq_true (by kernel_rfl)) k0 bel lt0) trodAll_mk0), rfl, bel.frame _, fun h => by cases h⟩
theorem over : Rows.resolveJustRow.holds Try.pinned (OpenSpec.ofChange Rows.resolveJustSpec) :=
  OpenClaim.holds_of_wide 3 Try.f3 rfl rfl rfl rfl rfl rfl rfl ⟨rfl, rfl, rfl, rfl, rfl⟩ rfl rfl rfl rfl rfl (by kernel_rfl) Try.func3 (by kernel_rfl)
    (of_decide_eq_true (by kernel_rfl)) (by unfold Func.isWrapper; first | (rw [if_pos (by decide +kernel)]; kernel_rfl) | (rw [if_neg (by decide +kernel)]; exact ⟨rfl, rfl⟩))
    (fun os started H enc _ => lifted os started H enc)
theorem proved : Rows.ResolveJustSaid := over
end Go.Proofs.Ytibkcnlcmempgaa.resolveJust
namespace Go.Proofs.Ytibkcnlcmempgaa
/-- The row, under a short name, for the claim. -/
theorem resolveJust_holds : Rows.ResolveJustSaid := resolveJust.proved
#print axioms resolveJust_holds
end Go.Proofs.Ytibkcnlcmempgaa
