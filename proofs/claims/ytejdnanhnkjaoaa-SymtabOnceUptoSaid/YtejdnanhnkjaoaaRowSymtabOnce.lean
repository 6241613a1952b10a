/- SymtabOnce: each name stands in a table once, and is found where it is told (P8.8, without the document's table). Conditions: what comes in is together of bulk at most 1048576, as the statement says. Made by a driver of this session. -/
import Derived.Test.YtejdnanhnkjaoaaStmtSymtabOnce
import Derived.Test.YtejdnanhnkjaoaaPureSymtabOnce
import Derived.Test.YtejdnanhnkjaoaaOpens
import Derived.WalkKit
import Derived.ProofKit
import Derived.OpenShut
import Derived.ShutString
import Derived.ChangeOld
import Derived.Below
import Derived.SizedLaws
import Derived.Deep.CondSized
namespace Go.Proofs.Ytejdnanhnkjaoaa.symtabOnce
open Go.ChangeShapes Go.WideShapes Go.ChangeAt Go.RowKit Go.Proofs.Ytejdnanhnkjaoaa.Opening Go.Proofs.Ytejdnanhnkjaoaa.G Go.Proofs.Ytejdnanhnkjaoaa.Stmt Go.Proofs.YtejdnanhnkjaoaaW.PrintWords
open Go.ChangeMaps (open_string shut_string)
set_option linter.unusedVariables false
set_option linter.unusedSimpArgs false
theorem own : ownKnob Try.prog.godebug = none := by kernel_rfl
theorem laidOut : laidOutB Try.prog = true := by kernel_rfl
set_option maxRecDepth 100000 in
theorem lifted (os : Os) (started : os.Started) (H : Type) (enc : TypeId × Value → H) (F : Stop.Interp) :
    ReturnsInHanded {} Try.checked os 5 .any ((Rows.OpenSpec.upto Rows.symtabOnceSpec).pre6 enc Try.prog Try.f5 Rows.symtabOnceUptoRow.domain false) (((Rows.OpenSpec.upto Rows.symtabOnceSpec).at F).post enc Try.prog Try.f5 false true false false) := by
  refine returnsInHanded_of_cond_sized (C := Try.checked) (s := Rows.OpenSpec.upto Rows.symtabOnceSpec) (k := Rows.uptoSmall) rfl own started (by kernel_rfl) Try.func5
    (OpenSpec.witness (enc := enc) (C := Try.checked) (s := Rows.OpenSpec.upto Rows.symtabOnceSpec) (k := Rows.uptoSmall) rfl false ⟨#[], #[.slice none 0 0], []⟩ 8 (by kernel_rfl) (by kernel_rfl) (by kernel_rfl)
      (x := ([.nil], [], [])) (by kernel_rfl) rfl (by kernel_rfl)) ?_
  intro W base args ds gs before hval0 hW hcnd hk hsz0 _
  have hsz : (DataW.weightsEach Try.prog (Try.f5.params.toList ++ Rows.symtabOnceSpec.plain.varTypes Try.prog) (ds ++ gs)).all (· ≤ reachBytes) = true := hsz0
  have hval : ∀ (j : Nat) t v, Try.f5.params[j]? = some t → args[j]? = some v → Value.okWide Try.prog W .any base t v := hval0
  have hW' := hW
  obtain ⟨p, q, hA0, hV, rfl, hfz, hnd⟩ := hW
  have hA : DataW.TrodAll enc Try.prog W 0 (fun _ => true) true Try.f5.params.toList args.toList ds p := hA0
  rw [Try.params5] at hA hval hsz
  obtain ⟨v0, vs0, d0, ds0, p0, q0, hargs, rfl, rfl, h0, r0⟩ := trodAll_cons hA
  obtain ⟨rfl, rfl, rfl⟩ := trodAll_nil r0
  obtain rfl : args = #[v0] := by cases args; simp_all
  obtain ⟨rfl, rfl⟩ := trodVars_none hV
  have hkk : Rows.uptoBulkAll [d0] ≤ 1048576 := by have := of_decide_eq_true hk; simpa using this
  simp only [Rows.uptoBulkAll] at hkk
  obtain ⟨A0, len0, c0, rfl⟩ := okWide_slice Try.underlying27 (hval 0 27 v0 rfl rfl)
  have k0 := h0
  have lt0 : ∀ x ∈ p0, x.block < W.heap.size := by obtain ⟨m, hm⟩ := k0; exact DataW.trod_lt m _ _ _ hm
  obtain ⟨fu0, hf0⟩ := h0
  obtain ⟨l0, ⟨A_, c_, e0, hc0, hr0⟩, w0, b0⟩ := (opens_slice (opens_string Try.underlying9 (by kernel_rfl)) Try.underlying27 (by kernel_rfl) (by kernel_rfl)).op hf0 (weights_of hsz (j := 0) (t := 27) rfl rfl)
  obtain ⟨rfl, rfl, rfl⟩ : A0 = A_ ∧ len0 = l0.length ∧ c0 = c_ := by simpa [Value.cells] using e0
  clear e0
  have z0 : ((l0.map (fun y => (y.size + 1))).sum + 1) ≤ Rows.uptoBulk d0 := b0
  have hbulk : ((l0.map (fun y => (y.size + 1))).sum + 1) ≤ 1048576 := by
    skip
    omega
  obtain ⟨k, h⟩ := (Pure.SymtabOnce l0 w0 hbulk)
  refine (G.gangwaylaw08_SymtabOnce.calls k _ _ l0 true W hr0 hc0 h).mono ?_
  rintro e W' ⟨rfl, bel⟩
  exact ⟨_, rfl, _, _, _, [], _, [], hW', trodAll_mk1 (shut_bool Try.underlying4 _), (trodAll_cons_mk (Below.trod laidOut (by kernel_rfl) (of_decide_eq_true (by kernel_rfl)) k0 bel lt0) trodAll_mk0), rfl, bel.frame _, fun h => by cases h⟩
theorem over : Rows.symtabOnceUptoRow.holds Try.pinned (Rows.OpenSpec.upto Rows.symtabOnceSpec) :=
  OpenClaim.holds_of_cond 5 Try.f5 rfl rfl rfl rfl rfl rfl rfl ⟨rfl, rfl, rfl, rfl, rfl⟩ rfl rfl rfl rfl rfl (by kernel_rfl) Try.func5 (by kernel_rfl)
    (of_decide_eq_true (by kernel_rfl)) (by unfold Func.isWrapper; first | (rw [if_pos (by decide +kernel)]; kernel_rfl) | (rw [if_neg (by decide +kernel)]; exact ⟨rfl, rfl⟩))
    (fun os started H enc _ F => lifted os started H enc F)
theorem proved : Rows.SymtabOnceUptoSaid := over
end Go.Proofs.Ytejdnanhnkjaoaa.symtabOnce
namespace Go.Proofs.Ytejdnanhnkjaoaa
/-- The row, under a short name, for the claim. -/
theorem symtabOnce_holds : Rows.SymtabOnceUptoSaid := symtabOnce.proved
#print axioms symtabOnce_holds
end Go.Proofs.Ytejdnanhnkjaoaa
