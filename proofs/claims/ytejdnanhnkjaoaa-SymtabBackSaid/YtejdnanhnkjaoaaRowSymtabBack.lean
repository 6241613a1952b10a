/- SymtabBack: THE STAGE'S THEOREM: what was written is read again, Local symbols first, and written the same (P8.7, P8.9, without the document's table). Conditions: none beyond the row's own. Made by a driver of this session. -/
import Derived.Test.YtejdnanhnkjaoaaStmtSymtabBack
import Derived.Test.YtejdnanhnkjaoaaPureSymtabBack
import Derived.Test.YtejdnanhnkjaoaaOpens
import Derived.WalkKit
import Derived.ProofKit
import Derived.OpenShut
import Derived.ShutString
import Derived.ChangeOld
import Derived.Below
import Derived.SizedLaws
import Derived.Deep.CondSized
namespace Go.Proofs.Ytejdnanhnkjaoaa.symtabBack
open Go.ChangeShapes Go.WideShapes Go.ChangeAt Go.RowKit Go.Proofs.Ytejdnanhnkjaoaa.Opening Go.Proofs.Ytejdnanhnkjaoaa.G Go.Proofs.Ytejdnanhnkjaoaa.Stmt Go.Proofs.YtejdnanhnkjaoaaW.PrintWords
open Go.ChangeMaps (open_string shut_string)
set_option linter.unusedVariables false
set_option linter.unusedSimpArgs false
theorem own : ownKnob Try.prog.godebug = none := by kernel_rfl
theorem laidOut : laidOutB Try.prog = true := by kernel_rfl
theorem o58 : Opens Try.prog 58 k58 wf58 wt58 :=
  opens_struct (fun x : S58 => (x.f0, x.f1, x.f2, x.f3, x.f4, x.f5)) (fun a => (⟨a.1, a.2.1, a.2.2.1, a.2.2.2.1, a.2.2.2.2.1, a.2.2.2.2.2⟩ : S58)) (fun _ => rfl) Try.underlying58 (by kernel_rfl) (opensF_cons (opens_string Try.underlying9 (by kernel_rfl)) rfl (opensF_cons (opens_string Try.underlying9 (by kernel_rfl)) rfl (opensF_cons (opens_int .i64 Try.underlying3 (by kernel_rfl)) rfl (opensF_cons (opens_int .i64 Try.underlying3 (by kernel_rfl)) rfl (opensF_cons (opens_int .i64 Try.underlying3 (by kernel_rfl)) rfl (opensF_one (opens_int .i64 Try.underlying3 (by kernel_rfl)) rfl) (by simp [Kd.int, Kd.bool, Kd.string, Kd.slice, Kd.scalar, Kd.iso, Kd.pair])) (by simp [Kd.int, Kd.bool, Kd.string, Kd.slice, Kd.scalar, Kd.iso, Kd.pair])) (by simp [Kd.int, Kd.bool, Kd.string, Kd.slice, Kd.scalar, Kd.iso, Kd.pair])) (by simp [Kd.int, Kd.bool, Kd.string, Kd.slice, Kd.scalar, Kd.iso, Kd.pair])) (by simp [Kd.int, Kd.bool, Kd.string, Kd.slice, Kd.scalar, Kd.iso, Kd.pair]))
set_option maxRecDepth 100000 in
theorem lifted (os : Os) (started : os.Started) (H : Type) (enc : TypeId × Value → H) :
    ReturnsInHanded {} Try.checked os 8 .any (Rows.symtabBackSpec.pre6 enc Try.prog Try.f8 Rows.symtabBackRow.domain false) (Rows.symtabBackSpec.post enc Try.prog Try.f8 false true false false) := by
  refine returnsInHanded_of_change_sized (C := Try.checked) own started (by kernel_rfl) Try.func8
    (ChangeSpec.witness6 (enc := enc) (C := Try.checked) false ⟨#[], #[.slice none 0 0, .slice none 0 0], []⟩ 8 (by kernel_rfl) (by kernel_rfl) (by kernel_rfl) (by kernel_rfl)) ?_
  intro W base args ds gs before hval0 hW hcnd hsz0 _
  have hsz : (DataW.weightsEach Try.prog (Try.f8.params.toList ++ Rows.symtabBackSpec.plain.varTypes Try.prog) (ds ++ gs)).all (· ≤ reachBytes) = true := hsz0
  have hval : ∀ (j : Nat) t v, Try.f8.params[j]? = some t → args[j]? = some v → Value.okWide Try.prog W .any base t v := hval0
  have hW' := hW
  obtain ⟨p, q, hA0, hV, rfl, hfz, hnd⟩ := hW
  have hA : DataW.TrodAll enc Try.prog W 0 (fun _ => true) true Try.f8.params.toList args.toList ds p := hA0
  rw [Try.params8] at hA hval hsz
  obtain ⟨v0, vs0, d0, ds0, p0, q0, hargs, rfl, rfl, h0, r0⟩ := trodAll_cons hA
  obtain ⟨v1, vs1, d1, ds1, p1, q1, rfl, rfl, rfl, h1, r1⟩ := trodAll_cons r0
  obtain ⟨rfl, rfl, rfl⟩ := trodAll_nil r1
  obtain rfl : args = #[v0, v1] := by cases args; simp_all
  obtain ⟨rfl, rfl⟩ := trodVars_none hV
  obtain ⟨A0, len0, c0, rfl⟩ := okWide_slice Try.underlying43 (hval 0 43 v0 rfl rfl)
  have k0 := h0
  have lt0 : ∀ x ∈ p0, x.block < W.heap.size := by obtain ⟨m, hm⟩ := k0; exact DataW.trod_lt m _ _ _ hm
  obtain ⟨fu0, hf0⟩ := h0
  obtain ⟨l0, ⟨A_, c_, e0, hc0, hr0⟩, w0, b0⟩ := (opens_slice o58 Try.underlying43 (by kernel_rfl) (by kernel_rfl)).op hf0 (weights_of hsz (j := 0) (t := 43) rfl rfl)
  obtain ⟨rfl, rfl, rfl⟩ : A0 = A_ ∧ len0 = l0.length ∧ c0 = c_ := by simpa [Value.cells] using e0
  clear e0
  obtain ⟨A1, len1, c1, rfl⟩ := okWide_slice Try.underlying27 (hval 1 27 v1 rfl rfl)
  have k1 := h1
  have lt1 : ∀ x ∈ p1, x.block < W.heap.size := by obtain ⟨m, hm⟩ := k1; exact DataW.trod_lt m _ _ _ hm
  obtain ⟨fu1, hf1⟩ := h1
  obtain ⟨l1, ⟨A_, c_, e1, hc1, hr1⟩, w1, b1⟩ := (opens_slice (opens_string Try.underlying9 (by kernel_rfl)) Try.underlying27 (by kernel_rfl) (by kernel_rfl)).op hf1 (weights_of hsz (j := 1) (t := 27) rfl rfl)
  obtain ⟨rfl, rfl, rfl⟩ : A1 = A_ ∧ len1 = l1.length ∧ c1 = c_ := by simpa [Value.cells] using e1
  clear e1
  obtain ⟨k, h⟩ := (Pure.SymtabBack l0 l1 w0 w1)
  refine (G.gangwaylaw08_SymtabBack.calls k _ _ l0 _ _ l1 true W hr0 hc0 hr1 hc1 h).mono ?_
  rintro e W' ⟨rfl, bel⟩
  exact ⟨_, rfl, _, _, _, [], _, [], hW', trodAll_mk1 (shut_bool Try.underlying4 _), (trodAll_cons_mk (Below.trod laidOut (by kernel_rfl) (of_decide_eq_true (by kernel_rfl)) k0 bel lt0) (trodAll_cons_mk (Below.trod laidOut (by kernel_rfl) (of_decide_eq_true (by kernel_rfl)) k1 bel lt1) trodAll_mk0)), rfl, bel.frame _, fun h => by cases h⟩
theorem over : Rows.symtabBackRow.holds Try.pinned (OpenSpec.ofChange Rows.symtabBackSpec) :=
  OpenClaim.holds_of_wide 8 Try.f8 rfl rfl rfl rfl rfl rfl rfl ⟨rfl, rfl, rfl, rfl, rfl⟩ rfl rfl rfl rfl rfl (by kernel_rfl) Try.func8 (by kernel_rfl)
    (of_decide_eq_true (by kernel_rfl)) (by unfold Func.isWrapper; first | (rw [if_pos (by decide +kernel)]; kernel_rfl) | (rw [if_neg (by decide +kernel)]; exact ⟨rfl, rfl⟩))
    (fun os started H enc _ => lifted os started H enc)
theorem proved : Rows.SymtabBackSaid := over
end Go.Proofs.Ytejdnanhnkjaoaa.symtabBack
namespace Go.Proofs.Ytejdnanhnkjaoaa
/-- The row, under a short name, for the claim. -/
theorem symtabBack_holds : Rows.SymtabBackSaid := symtabBack.proved
#print axioms symtabBack_holds
end Go.Proofs.Ytejdnanhnkjaoaa
