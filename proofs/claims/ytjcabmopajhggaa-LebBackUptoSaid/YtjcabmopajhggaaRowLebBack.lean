/- LebBack: THE STAGE'S THEOREM: what is written is read as it was, with anything ahead and behind (P108). Conditions: what comes in is together of bulk at most 1048576, as the statement says. Made by a driver of this session. -/
import Derived.Test.YtjcabmopajhggaaStmtLebBack
import Derived.Test.YtjcabmopajhggaaPureLebBack
import Derived.Test.YtjcabmopajhggaaOpens
import Derived.WalkKit
import Derived.ProofKit
import Derived.OpenShut
import Derived.ShutString
import Derived.ChangeOld
import Derived.Below
import Derived.SizedLaws
import Derived.Deep.CondSized
namespace Go.Proofs.Ytjcabmopajhggaa.lebBack
open Go.ChangeShapes Go.WideShapes Go.ChangeAt Go.RowKit Go.Proofs.Ytjcabmopajhggaa.Opening Go.Proofs.Ytjcabmopajhggaa.G Go.Proofs.Ytjcabmopajhggaa.Stmt Go.Proofs.YtjcabmopajhggaaW.PrintWords
open Go.ChangeMaps (open_string shut_string)
set_option linter.unusedVariables false
set_option linter.unusedSimpArgs false
theorem own : ownKnob Try.prog.godebug = none := by kernel_rfl
theorem laidOut : laidOutB Try.prog = true := by kernel_rfl
set_option maxRecDepth 100000 in
theorem lifted (os : Os) (started : os.Started) (H : Type) (enc : TypeId × Value → H) (F : Stop.Interp) :
    ReturnsInHanded {} Try.checked os 7 .any ((Rows.OpenSpec.upto Rows.lebBackSpec).pre6 enc Try.prog Try.f7 Rows.lebBackUptoRow.domain false) (((Rows.OpenSpec.upto Rows.lebBackSpec).at F).post enc Try.prog Try.f7 false true false false) := by
  refine returnsInHanded_of_cond_sized (C := Try.checked) (s := Rows.OpenSpec.upto Rows.lebBackSpec) (k := Rows.uptoSmall) rfl own started (by kernel_rfl) Try.func7
    (OpenSpec.witness (enc := enc) (C := Try.checked) (s := Rows.OpenSpec.upto Rows.lebBackSpec) (k := Rows.uptoSmall) rfl false ⟨#[], #[.int .i64 0, .int .i64 0, .slice none 0 0, .slice none 0 0], []⟩ 8 (by kernel_rfl) (by kernel_rfl) (by kernel_rfl)
      (x := ([.lit (.int .i64 0), .lit (.int .i64 0), .nil, .nil], [], [])) (by kernel_rfl) rfl (by kernel_rfl)) ?_
  intro W base args ds gs before hval0 hW hcnd hk hsz0 _
  have hsz : (DataW.weightsEach Try.prog (Try.f7.params.toList ++ Rows.lebBackSpec.plain.varTypes Try.prog) (ds ++ gs)).all (· ≤ reachBytes) = true := hsz0
  have hval : ∀ (j : Nat) t v, Try.f7.params[j]? = some t → args[j]? = some v → Value.okWide Try.prog W .any base t v := hval0
  have hW' := hW
  obtain ⟨p, q, hA0, hV, rfl, hfz, hnd⟩ := hW
  have hA : DataW.TrodAll enc Try.prog W 0 (fun _ => true) true Try.f7.params.toList args.toList ds p := hA0
  rw [Try.params7] at hA hval hsz
  obtain ⟨v0, vs0, d0, ds0, p0, q0, hargs, rfl, rfl, h0, r0⟩ := trodAll_cons hA
  obtain ⟨v1, vs1, d1, ds1, p1, q1, rfl, rfl, rfl, h1, r1⟩ := trodAll_cons r0
  obtain ⟨v2, vs2, d2, ds2, p2, q2, rfl, rfl, rfl, h2, r2⟩ := trodAll_cons r1
  obtain ⟨v3, vs3, d3, ds3, p3, q3, rfl, rfl, rfl, h3, r3⟩ := trodAll_cons r2
  obtain ⟨rfl, rfl, rfl⟩ := trodAll_nil r3
  obtain rfl : args = #[v0, v1, v2, v3] := by cases args; simp_all
  obtain ⟨rfl, rfl⟩ := trodVars_none hV
  have hkk : Rows.uptoBulkAll [d0, d1, d2, d3] ≤ 1048576 := by have := of_decide_eq_true hk; simpa using this
  simp only [Rows.uptoBulkAll] at hkk
  obtain ⟨a0, rfl, rfl, rfl, w0⟩ := open_int Try.underlying3 (hval 0 3 v0 rfl rfl) h0
  obtain ⟨a1, rfl, rfl, rfl, w1⟩ := open_int Try.underlying3 (hval 1 3 v1 rfl rfl) h1
  obtain ⟨A2, len2, c2, rfl⟩ := okWide_slice Try.underlying22 (hval 2 22 v2 rfl rfl)
  have k2 := h2
  have lt2 : ∀ x ∈ p2, x.block < W.heap.size := by obtain ⟨m, hm⟩ := k2; exact DataW.trod_lt m _ _ _ hm
  obtain ⟨fu2, hf2⟩ := h2
  obtain ⟨l2, ⟨A_, c_, e2, hc2, hr2⟩, w2, b2⟩ := (opens_slice (opens_int .u8 Try.underlying5 (by kernel_rfl)) Try.underlying22 (by kernel_rfl) (by kernel_rfl)).op hf2 (weights_of hsz (j := 2) (t := 22) rfl rfl)
  obtain ⟨rfl, rfl, rfl⟩ : A2 = A_ ∧ len2 = l2.length ∧ c2 = c_ := by simpa [Value.cells] using e2
  clear e2
  obtain ⟨A3, len3, c3, rfl⟩ := okWide_slice Try.underlying22 (hval 3 22 v3 rfl rfl)
  have k3 := h3
  have lt3 : ∀ x ∈ p3, x.block < W.heap.size := by obtain ⟨m, hm⟩ := k3; exact DataW.trod_lt m _ _ _ hm
  obtain ⟨fu3, hf3⟩ := h3
  obtain ⟨l3, ⟨A_, c_, e3, hc3, hr3⟩, w3, b3⟩ := (opens_slice (opens_int .u8 Try.underlying5 (by kernel_rfl)) Try.underlying22 (by kernel_rfl) (by kernel_rfl)).op hf3 (weights_of hsz (j := 3) (t := 22) rfl rfl)
  obtain ⟨rfl, rfl, rfl⟩ : A3 = A_ ∧ len3 = l3.length ∧ c3 = c_ := by simpa [Value.cells] using e3
  clear e3
  have z2 : ((l2.map (fun y => 1)).sum + 1) ≤ Rows.uptoBulk d2 := b2
  have z3 : ((l3.map (fun y => 1)).sum + 1) ≤ Rows.uptoBulk d3 := b3
  have hbulk : 1 + 1 + ((l2.map (fun y => 1)).sum + 1) + ((l3.map (fun y => 1)).sum + 1) ≤ 1048576 := by
    simp only [Rows.uptoBulk, List.length_map, Array.length_toList] at hkk
    omega
  obtain ⟨k, h⟩ := (Pure.LebBack a0 a1 l2 l3 w0 w1 w2 w3 hbulk)
  refine (G.gangwaylaw01_LebBack.calls k a0 a1 _ _ l2 _ _ l3 true W hr2 hc2 hr3 hc3 h).mono ?_
  rintro e W' ⟨rfl, bel⟩
  exact ⟨_, rfl, _, _, _, [], _, [], hW', trodAll_mk1 (shut_bool Try.underlying4 _), (trodAll_cons_mk (shut_int Try.underlying3 w0) (trodAll_cons_mk (shut_int Try.underlying3 w1) (trodAll_cons_mk (Below.trod laidOut (by kernel_rfl) (of_decide_eq_true (by kernel_rfl)) k2 bel lt2) (trodAll_cons_mk (Below.trod laidOut (by kernel_rfl) (of_decide_eq_true (by kernel_rfl)) k3 bel lt3) trodAll_mk0)))), rfl, bel.frame _, fun h => by cases h⟩
theorem over : Rows.lebBackUptoRow.holds Try.pinned (Rows.OpenSpec.upto Rows.lebBackSpec) :=
  OpenClaim.holds_of_cond 7 Try.f7 rfl rfl rfl rfl rfl rfl rfl ⟨rfl, rfl, rfl, rfl, rfl⟩ rfl rfl rfl rfl rfl (by kernel_rfl) Try.func7 (by kernel_rfl)
    (of_decide_eq_true (by kernel_rfl)) (by unfold Func.isWrapper; first | (rw [if_pos (by decide +kernel)]; kernel_rfl) | (rw [if_neg (by decide +kernel)]; exact ⟨rfl, rfl⟩))
    (fun os started H enc _ F => lifted os started H enc F)
theorem proved : Rows.LebBackUptoSaid := over
end Go.Proofs.Ytjcabmopajhggaa.lebBack
namespace Go.Proofs.Ytjcabmopajhggaa
/-- The row, under a short name, for the claim. -/
theorem lebBack_holds : Rows.LebBackUptoSaid := lebBack.proved
#print axioms lebBack_holds
end Go.Proofs.Ytjcabmopajhggaa
