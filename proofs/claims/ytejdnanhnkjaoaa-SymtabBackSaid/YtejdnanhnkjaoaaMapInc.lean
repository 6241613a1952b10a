/- 'm[k]++' on a map of the call's own: the entry is fetched, the number is looked up (ahead of it or behind it), and stored. -/
import Derived.Test.YtejdnanhnkjaoaaMaps
import Derived.WideKeyEntry
namespace Go.Proofs.Ytejdnanhnkjaoaa.Own
set_option linter.unusedVariables false
set_option linter.unusedSimpArgs false
open Go.ChangeMaps Go.MapKept Go.WideShapes
open Go.Maps (Keyed IsMap)
open Go.WideMaps (KeyLaw)

theorem MapF.of_block {P : Program} {k e : TypeId} {w w' : World} {b n : Nat} {f : Lit → Option Int} (h : MapF P k e w b n f) (hb : w'.heap[b]? = w.heap[b]?) : MapF P k e w' b n f := by
  obtain ⟨D, ⟨es, clock, h1, h2⟩, h3⟩ := h
  exact ⟨D, ⟨es, clock, hb.trans h1, h2⟩, h3⟩
theorem MapF.entry {P : Program} {t k e : TypeId} {w : World} {b n : Nat} {f : Lit → Option Int} (h : MapF P k e w b n f) (K : KeyLaw P k) (ht : P.underlying t = some (.map k e)) (he : P.underlying e = some (.int .i64))
    (hz : ∀ u : World, (zeroValue e).run P u = .ok (.int .i64 0) u) (hn : n < maxLen) {key : Value} {kl : Lit} (hkey : keyOf P k key = some kl) :
    ∃ (v0 : Value) (st : Nat) (w1 : World), (Instr.mapEntry t (.map (some b)) key).run P w = .ok (.tuple #[v0, goInt st]) w1 ∧ w.grownBy w1 (some b) ∧
      (∀ w2 : World, w2.heap[b]? = w1.heap[b]? → (Instr.lookup t (.map (some b)) key false).run P w2 = .ok (.int .i64 ((f kl).getD 0)) w2) ∧
      ∀ (c : Int), (Lit.int .i64 c).wf = true → ∀ w2 : World, w2.heap[b]? = w1.heap[b]? → ∃ w3, (Instr.entryStore t (.map (some b)) (goInt st) (.int .i64 c)).run P w2 = .ok () w3 ∧ MapF P k e w3 b (n + 1) (putF f kl c) ∧ w2.grownBy w3 (some b) := by
  have K2 := Keyed.of_law K
  have hM := h
  obtain ⟨D, ⟨es, clock, hb, F, hs, hD⟩, hf1, hf2⟩ := h
  obtain ⟨v0, st, es1, clock1, hrun, hv0, hstore⟩ := WideElems.entry_then_store K ht hz hb F hkey
  have hblk : (setBlock w b (.map es1 clock1)).heap[b]? = some (.map es1 clock1) := heap_setBlock_same hb _
  refine ⟨v0, st, _, hrun, ⟨rfl, rfl, rfl, by simp [setBlock], fun i _ hi => heap_setBlock_other hb _ (fun e => hi (by rw [e]))⟩, fun w2 hw2 => ?_, fun c hc w2 hw2 => ?_⟩
  · rcases K.find w hkey es.toList F.keys with ⟨h1, h2⟩ | ⟨j, e0, h1, h2, h3⟩
    · have hmine : (Instr.mapEntry t (.map (some b)) key).run P w = .ok (.tuple #[.int .i64 0, goInt clock]) (setBlock w b (.map (es.push ⟨key, .int .i64 0, clock⟩) (clock + 1))) := by
        simp [Instr.mapEntry, run_underlying ht, MapKept.run_getObj_map hb, K.check w false hkey, h1, hz, MapKept.run_setObj_map _ hb, Result.andThen, setBlock]
      have hup : (Instr.mapUpdate t (.map (some b)) key (.int .i64 0)).run P w = .ok () (setBlock w b (.map (es.push ⟨key, .int .i64 0, clock⟩) (clock + 1))) := by
        simp [Instr.mapUpdate, run_underlying ht, MapKept.run_getObj_map hb, K.check w false hkey, h1, MapKept.run_setObj_map _ hb, Result.andThen, setBlock]
      obtain ⟨w', hr', hM', _⟩ := hM.put K2 ht he hn hkey (c := 0) (by decide)
      rw [hup] at hr'
      have e1 := (Result.ok.inj hr').2
      rw [hrun] at hmine
      have e2 := (Result.ok.inj hmine).2
      have hM2 : MapF P k e w2 b (n + 1) (putF f kl 0) := hM'.of_block (by rw [hw2, e2, e1])
      have hlook := hM2.look K2 ht he (hz w2) hkey
      have hnone : f kl = none := by
        have h4 := hM.look_ok K2 ht he (hz w) hkey
        have h5 := hf1 kl
        cases hfk : f kl with
        | none => rfl
        | some c0 =>
          exfalso
          rw [hfk] at h4
          simp [Instr.lookup, run_underlying ht, MapKept.run_getObj_map hb, K.check w _ hkey, h1, hz, Result.andThen] at h4
      rw [hlook, hnone]
      simp [putF]
    · have hj : es[j]? = some e0 := by simpa using h2
      have hsame : es.modify j (fun e => { e with key := key }) = es := by
        apply Array.ext'
        rw [Array.toList_modify, modify_eq_set _ _ _ _ h2]
        have : ({ e0 with key := key } : MapEntry) = e0 := by rw [← h3]
        rw [this]
        exact WideElems.set_self _ _ _ h2
      have hmine : (Instr.mapEntry t (.map (some b)) key).run P w = .ok (.tuple #[e0.val, goInt e0.born]) (setBlock w b (.map es clock)) := by
        simp [Instr.mapEntry, run_underlying ht, MapKept.run_getObj_map hb, K.check w false hkey, h1, hj, h3, K.stays w hkey, hsame, MapKept.run_setObj_map _ hb, Result.andThen, setBlock]
      rw [hrun] at hmine
      have e2 := (Result.ok.inj hmine).2
      have hM2 : MapF P k e w2 b n f := hM.of_block (by rw [hw2, e2, heap_setBlock_same hb, hb])
      exact hM2.look K2 ht he (hz w2) hkey
  · obtain ⟨es', clock', hr1, hr2⟩ := hstore w2 (.int .i64 c) (hw2.trans hblk)
    obtain ⟨w', hr', hM', _⟩ := hM.put K2 ht he hn hkey hc
    rw [hr2] at hr'
    have e1 := (Result.ok.inj hr').2
    have hb2 : w2.heap[b]? = some (.map es1 clock1) := hw2.trans hblk
    refine ⟨_, hr1, hM'.of_block ?_, ⟨rfl, rfl, rfl, by simp [setBlock], fun i _ hi => heap_setBlock_other hb2 _ (fun e => hi (by rw [e]))⟩⟩
    rw [heap_setBlock_same hb2, ← e1, heap_setBlock_same hb]
theorem skip_step {P : Program} {ops : Array Oper} {o : Oper} {a : Act} {Q : Exit → Act → World → Prop} {Kc : Act → World → Prop} {W w1 : World} (hw : Region.wanted o (yielded ops a.tmps) = true) (hrun : (execOp a.eval o).run P W = .ok .skip w1) (h : Kc (a.put o.dst undef) w1) :
    if Region.wanted o (yielded ops a.tmps) = true then Oper.wp P o a W Kc Q else Kc (a.put o.dst undef) W := by
  rw [if_pos hw]
  unfold Oper.wp
  rw [hrun]
  exact h
end Go.Proofs.Ytejdnanhnkjaoaa.Own
