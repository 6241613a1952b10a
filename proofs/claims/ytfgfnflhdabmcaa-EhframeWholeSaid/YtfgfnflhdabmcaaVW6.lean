/- Lemmas and contracts, one text behind the other: what the row of this claim needs; no conditions beyond those that each theorem names. -/
import Derived.Test.YtfgfnflhdabmcaaRows
import Derived.ChangeArms
import Derived.DataReads
import Derived.SizedLaws
import Derived.Test.YtfgfnflhdabmcaaVW5
set_option linter.unusedVariables false
set_option linter.unusedSimpArgs false
set_option maxRecDepth 100000
section
namespace Go.Proofs.Ytfgfnflhdabmcaa.EhB
open Go.RowKit Go.Proofs.Ytfgfnflhdabmcaa.G Go.Proofs.YtfgfnflhdabmcaaW.PrintWords Go.Proofs.YtfgfnflhdabmcaaW.PrintLast Go.Proofs.YtfgfnflhdabmcaaW.PrintMore Go.Proofs.Ytfgfnflhdabmcaa.Bit Go.Proofs.Ytfgfnflhdabmcaa.Leb Go.Proofs.Ytfgfnflhdabmcaa.Eh Go.Proofs.Ytfgfnflhdabmcaa.EhOf
open Go.Proofs.Ytfgfnflhdabmcaa.EhRd (gR opsV cieV fdeV lookI lookI_cons trim readR finV)
open Go.Proofs.Ytfgfnflhdabmcaa.Cfa (opl)
abbrev Cs := List S69
abbrev Fs := List S46
/-- what one record makes of the reader's lists -/
inductive Step (a2 : Int) (at_ : Nat) (cs : Cs) (fs : Fs) (pm : List (Int × Int)) (pb : List Int) : Cs → Fs → List (Int × Int) → Prop
  | cie (x : S69) (h1 : gR pb 0 = some 0) (h2 : cieV pb = some x) (h3 : cs.length ≤ 2097152 ∧ pm.length ≤ 2097152) : Step a2 at_ cs fs pm pb (cs ++ [x]) fs (((at_ : Int), (cs.length : Int)) :: pm)
  | fde (id : Int) (x : S46) (h1 : gR pb 0 = some id) (h2 : id ≠ 0) (h3 : fdeV a2 cs pm ((at_ : Int) + 4) id pb = some x) (h4 : fs.length ≤ 2097152) : Step a2 at_ cs fs pm pb cs (fs ++ [x]) pm
inductive Runs (a2 : Int) : Nat → Cs → Fs → List (Int × Int) → List (List Int) → Cs → Fs → List (Int × Int) → Prop
  | nil (at_ : Nat) (cs : Cs) (fs : Fs) (pm : List (Int × Int)) : Runs a2 at_ cs fs pm [] cs fs pm
  | cons {at_ : Nat} {cs cs1 cs2 : Cs} {fs fs1 fs2 : Fs} {pm pm1 pm2 : List (Int × Int)} {pb : List Int} {l : List (List Int)} (h1 : Step a2 at_ cs fs pm pb cs1 fs1 pm1) (h2 : pb.length % 8 = 4) (h3 : pb.length ≤ 200000) (h4 : Byte pb) (h5 : Runs a2 (at_ + 4 + pb.length) cs1 fs1 pm1 l cs2 fs2 pm2) : Runs a2 at_ cs fs pm (pb :: l) cs2 fs2 pm2
def recP (pb : List Int) : List Int := low4 (pb.length : Int) ++ pb
def flat (l : List (List Int)) : List Int := (l.map recP).flatten
theorem recP_length (pb : List Int) : (recP pb).length = 4 + pb.length := by unfold recP; rw [List.length_append, low4_length]
theorem flat_cons (pb : List Int) (l : List (List Int)) : flat (pb :: l) = recP pb ++ flat l := rfl
theorem flat_append (a b : List (List Int)) : flat (a ++ b) = flat a ++ flat b := by simp [flat]
theorem Runs.append {a2 : Int} {at_ : Nat} {cs cs1 cs2 : Cs} {fs fs1 fs2 : Fs} {pm pm1 pm2 : List (Int × Int)} {l m : List (List Int)} (h : Runs a2 at_ cs fs pm l cs1 fs1 pm1) (h2 : Runs a2 (at_ + (flat l).length) cs1 fs1 pm1 m cs2 fs2 pm2) : Runs a2 at_ cs fs pm (l ++ m) cs2 fs2 pm2 := by
  induction h with
  | nil => exact h2
  | cons h1 h3 h4 h5 h6 ih =>
    refine Runs.cons h1 h3 h4 h5 (ih ?_)
    rw [flat_cons, List.length_append, recP_length] at h2
    rw [show ∀ a b c : Nat, a + 4 + b + c = a + (4 + b + c) from by omega]
    exact h2
theorem Runs.byte {a2 : Int} {at_ : Nat} {cs cs1 : Cs} {fs fs1 : Fs} {pm pm1 : List (Int × Int)} {l : List (List Int)} (h : Runs a2 at_ cs fs pm l cs1 fs1 pm1) : Byte (flat l) := by
  induction h with
  | nil => intro x hx; cases hx
  | cons h1 h3 h4 h5 h6 ih => exact byte_app (byte_app (byte_low _) h5) ih
/-- the head of a record -/
theorem head_at (pb pre suf : List Int) (hp : pb.length ≤ 200000) (hb : Byte (pre ++ recP pb ++ suf)) (hl : (pre ++ recP pb ++ suf).length ≤ 1048576) : gR (pre ++ recP pb ++ suf) (pre.length : Int) = some (pb.length : Int) ∧ ((pre ++ recP pb ++ suf).take ((pre.length : Int) + 4 + (pb.length : Int)).toNat).drop ((pre.length : Int) + 4).toNat = pb := by
  have h4 := low4_length (pb.length : Int)
  refine ⟨?_, ?_⟩
  · have h := gR_low (pb.length : Int) (by omega) (by omega) pre (pb ++ suf) (by unfold recP at hb; simpa [List.append_assoc] using hb) (by unfold recP at hl; simp only [List.length_append] at hl ⊢; omega)
    unfold recP
    simpa [List.append_assoc] using h
  · have e1 : (pre ++ recP pb ++ suf).take ((pre.length : Int) + 4 + (pb.length : Int)).toNat = pre ++ recP pb := by
      exact List.take_left' (by rw [List.length_append, recP_length]; omega)
    rw [e1]
    unfold recP
    rw [← List.append_assoc]
    exact List.drop_left' (by rw [List.length_append, h4]; omega)
/-- a run of records, read -/
theorem read_runs {a2 : Int} {at_ : Nat} {cs cs1 : Cs} {fs fs1 : Fs} {pm pm1 : List (Int × Int)} {l : List (List Int)} (h : Runs a2 at_ cs fs pm l cs1 fs1 pm1) : ∀ (L pre suf : List Int) (k : Nat), L = pre ++ flat l ++ suf → pre.length = at_ → L.length ≤ 1048576 → Byte L → readR L a2 (k + l.length) (at_ : Int) cs fs pm = readR L a2 k ((at_ + (flat l).length : Nat) : Int) cs1 fs1 pm1 := by
  induction h with
  | nil => intro L pre suf k _ _ _ _; simp [flat]
  | @cons at_ cs cs1 cs2 fs fs1 fs2 pm pm1 pm2 pb l h1 h3 h4 h5 h6 ih =>
    intro L pre suf k hL hat hlen hby
    have hL2 : L = pre ++ recP pb ++ (flat l ++ suf) := by rw [hL, flat_cons]; simp
    obtain ⟨g1, g2⟩ := head_at pb pre (flat l ++ suf) h4 (by rw [← hL2]; exact hby) (by rw [← hL2]; exact hlen)
    rw [← hL2, hat] at g1 g2
    have hll : L.length = at_ + (4 + pb.length) + (flat l ++ suf).length := by rw [hL2, List.length_append, List.length_append, recP_length, hat]
    have ih2 := ih L (pre ++ recP pb) suf k (by rw [hL2]; simp) (by rw [List.length_append, recP_length, hat]; omega) hlen hby
    rw [List.length_cons, show k + (l.length + 1) = (k + l.length) + 1 from rfl, readR, if_pos (by omega), if_pos (by omega), g1, Option.bind_some, if_neg (by omega), if_pos (by
      refine ⟨?_, by omega⟩
      rw [Int.tmod_eq_emod_of_nonneg (by omega)]
      omega), if_neg (by omega), g2]
    have e2 : (at_ : Int) + 4 + (pb.length : Int) = ((at_ + 4 + pb.length : Nat) : Int) := by omega
    rw [flat_cons, List.length_append, recP_length, show at_ + (4 + pb.length + (flat l).length) = at_ + 4 + pb.length + (flat l).length from by omega, ← ih2]
    cases h1 with
    | cie x q1 q2 q3 => rw [q1, Option.bind_some, if_pos rfl, q2, Option.bind_some, if_pos q3, e2]
    | fde id x q1 q2 q3 q4 => rw [q1, Option.bind_some, if_neg q2, q3, Option.bind_some, if_pos q4, e2]
def trimC (x : S69) : S69 := ⟨x.f0, trim x.f1⟩
def trimF (y : S46) : S46 := ⟨y.f0, y.f1, y.f2, trim y.f3⟩
theorem pad_mod (n : Nat) : (n + lack n) % 8 = 4 ∧ lack n ≤ 7 := by unfold lack; omega
theorem recB_recP (b : List Int) : recB b = recP (b ++ List.replicate (lack b.length) 0) := by
  unfold recB recP
  rw [List.length_append, List.length_replicate]
structure GoodC (x : S69) : Prop where
  enc : (ofF x.f0).2.2.2 = true
  len : x.f1.length ≤ 3992
  may : May (opl x.f1)
structure GoodF (y : S46) : Prop where
  ok : OkF y
  len : y.f3.length ≤ 3992
  may : May (opl y.f3)
theorem w2 (a2 : Int) (ha : 0 ≤ a2 ∧ a2 ≤ 576460752303423488) (n : Nat) (h : n ≤ 1048576) : wrap64 (wrap64 (a2 + (n : Int)) + 8) = a2 + (n : Int) + 8 := by unfold wrap64; omega
theorem w3 (n f : Nat) (h : n ≤ 1048576) (hf : f ≤ n) : wrap64 (wrap64 ((n : Int) + 4) - (f : Int)) = (n : Int) + 4 - (f : Int) := by unfold wrap64; omega
theorem fde_len (i : Int) (p q : List Int) (ops : List S105) (hp : p.length ≤ 10) (hq : q.length ≤ 10) (ho : ops.length ≤ 4000) : (low4 i ++ p ++ q ++ [0] ++ wB ops).length ≤ 130000 := by
  have h2 := wB_le ho
  simp only [List.length_append, low4_length, List.length_singleton]
  omega
theorem fde_step (a2 : Int) (ha : 0 ≤ a2 ∧ a2 ≤ 576460752303423488) (ci first : Nat) (enc : Int) (cs : Cs) (hci : ci < cs.length) (henc : (rd_T69 cs (ci : Int)).f0 = enc) (pm : List (Int × Int)) (hlook : lookI pm (first : Int) = some (ci : Int)) (y : S46) (hy : y.f0 = (ci : Int)) (g : GoodF y) (n : Nat) (hn : n ≤ 1048576) (hfi : first ≤ n) (fs : Fs) (hfl : fs.length ≤ 2097152)
    (hp : (pV enc y.f1 (wrap64 (wrap64 (a2 + (n : Int)) + 8))).2 = 0) (hq : (pV (e15 enc) y.f2 0).2 = 0) :
    ∃ P, fdeB n (first : Int) (pV enc y.f1 (wrap64 (wrap64 (a2 + (n : Int)) + 8))).1 (pV (e15 enc) y.f2 0).1 y.f3 = recP P ∧ P.length % 8 = 4 ∧ P.length ≤ 200000 ∧ Byte P ∧ Step a2 n cs fs pm P cs (fs ++ [trimF y]) pm := by
  rw [w2 a2 ha n hn] at hp ⊢
  have hbody := fde_back a2 n first ha hn hfi cs pm (ci : Int) (by omega) enc henc hlook y hp hq g.len g.may
  have hBl := fde_len ((n : Int) + 4 - (first : Int)) _ _ y.f3 (pV_le enc y.f1 (a2 + (n : Int) + 8)) (pV_le (e15 enc) y.f2 0) (Nat.le_trans g.len (by decide))
  have hby : Byte (low4 ((n : Int) + 4 - (first : Int)) ++ (pV enc y.f1 (a2 + (n : Int) + 8)).1 ++ (pV (e15 enc) y.f2 0).1 ++ [0] ++ wB y.f3) :=
    byte_app (byte_app (byte_app (byte_app (byte_low _) (byte_put hp)) (byte_put hq)) (by intro x hx; rw [List.mem_singleton.1 hx]; decide)) (wB_range (Nat.le_trans g.len (by decide)) g.may)
  unfold fdeB
  rw [w3 n first hn hfi]
  generalize low4 ((n : Int) + 4 - (first : Int)) ++ (pV enc y.f1 (a2 + (n : Int) + 8)).1 ++ (pV (e15 enc) y.f2 0).1 ++ [0] ++ wB y.f3 = B at hbody hBl hby ⊢
  clear hp hq
  have hpad := pad_mod B.length
  obtain ⟨q1, q2⟩ := hbody (lack B.length) (by omega)
  have hl : (B ++ List.replicate (lack B.length) 0).length = B.length + lack B.length := by rw [List.length_append, List.length_replicate]
  refine ⟨B ++ List.replicate (lack B.length) 0, recB_recP B, by rw [hl]; exact hpad.1, by rw [hl]; omega, byte_app hby (byte_zeros _), ?_⟩
  have := Step.fde (fs := fs) _ _ q1 (by omega) q2 hfl
  rw [show ((⟨(ci : Int), y.f1, y.f2, trim y.f3⟩ : S46)) = trimF y from by unfold trimF; rw [hy]] at this
  exact this
theorem cie_step (a2 : Int) (x : S69) (g : GoodC x) (n : Nat) (cs : Cs) (fs : Fs) (pm : List (Int × Int)) (hl : cs.length ≤ 2097152 ∧ pm.length ≤ 2097152) :
    ∃ P, recB (headB x.f0 ++ wB x.f1) = recP P ∧ P.length % 8 = 4 ∧ P.length ≤ 200000 ∧ Byte P ∧ Step a2 n cs fs pm P (cs ++ [trimC x]) fs (((n : Int), (cs.length : Int)) :: pm) := by
  have hback := fun z hz => cie_back x.f0 g.enc x.f1 g.len g.may z hz
  have hby : Byte (headB x.f0 ++ wB x.f1) := byte_app (byte_head _) (wB_range (Nat.le_trans g.len (by decide)) g.may)
  have hBl : (headB x.f0 ++ wB x.f1).length ≤ 130000 := by
    have hwl := wB_le (l := x.f1) (Nat.le_trans g.len (by decide))
    rw [List.length_append, show (headB x.f0).length = 13 from rfl]
    omega
  generalize headB x.f0 ++ wB x.f1 = B at hback hby hBl ⊢
  have hpad := pad_mod B.length
  have hb := hback (lack B.length) (by omega)
  have hl2 : (B ++ List.replicate (lack B.length) 0).length = B.length + lack B.length := by rw [List.length_append, List.length_replicate]
  exact ⟨B ++ List.replicate (lack B.length) 0, recB_recP B, by rw [hl2]; exact hpad.1, by rw [hl2]; omega, byte_app hby (byte_zeros _), Step.cie (trimC x) hb.1 hb.2 hl⟩
theorem in_runs (a2 : Int) (ha : 0 ≤ a2 ∧ a2 ≤ 576460752303423488) (ci : Nat) (first : Nat) (enc : Int) (cs : Cs) (hci : ci < cs.length) (henc : (rd_T69 cs (ci : Int)).f0 = enc) (pm : List (Int × Int)) (hlook : lookI pm (first : Int) = some (ci : Int)) (l : Fs) (hg : ∀ y ∈ l, GoodF y) :
    ∀ (i : Nat) (b at_ : List Int) (fs : Fs) (r : List Int × List Int), inV (ci : Int) (first : Int) enc a2 l i b at_ = some r → first ≤ b.length → r.1.length ≤ 1048576 → fs.length + l.length ≤ 2097152 →
      b.length ≤ r.1.length ∧ ∃ bodies, Runs a2 b.length cs fs pm bodies cs (fs ++ (l.filter (fun y => y.f0 = (ci : Int))).map trimF) pm ∧ r.1 = b ++ flat bodies ∧ bodies.length = (l.filter (fun y => y.f0 = (ci : Int))).length := by
  induction l with
  | nil =>
    intro i b at_ fs r h _ _ _
    simp only [inV, Option.some.injEq] at h
    subst h
    exact ⟨Nat.le_refl _, [], by simpa using Runs.nil _ _ _ _, by simp [flat], rfl⟩
  | cons y l ih =>
    intro i b at_ fs r h hfi hr hfl
    have ih' := ih (fun y hy => hg y (List.mem_cons_of_mem _ hy))
    have gy := hg y List.mem_cons_self
    simp only [inV] at h
    simp only [List.length_cons] at hfl
    by_cases hc : y.f0 = (ci : Int)
    · rw [if_pos hc] at h
      split at h
      case isFalse => cases h
      rename_i hp
      split at h
      case isFalse => cases h
      rename_i hq
      have hle : b.length ≤ (b ++ fdeB b.length (first : Int) (pV enc y.f1 (wrap64 (wrap64 (a2 + (b.length : Int)) + 8))).1 (pV (e15 enc) y.f2 0).1 y.f3).length := by rw [List.length_append]; exact Nat.le_add_right _ _
      obtain ⟨h0, bodies, h1, h2, h3⟩ := ih' (i + 1) _ _ (fs ++ [trimF y]) r h (Nat.le_trans hfi hle) hr (by rw [List.length_append, List.length_singleton]; omega)
      have hbr : b.length ≤ r.1.length := Nat.le_trans hle h0
      obtain ⟨P, p1, p2, p3, p4, p5⟩ := fde_step a2 ha ci first enc cs hci henc pm hlook y hc gy b.length (Nat.le_trans hbr hr) hfi fs (by omega) hp hq
      rw [p1] at h1 h2
      clear h hp hq p1 hle
      refine ⟨hbr, P :: bodies, Runs.cons p5 p2 p3 p4 ?_, ?_, ?_⟩
      · rw [List.filter_cons_of_pos (by simpa using hc), List.map_cons]
        rw [List.length_append, recP_length] at h1
        rw [show fs ++ trimF y :: List.map trimF (List.filter (fun y => decide (y.f0 = (ci : Int))) l) = (fs ++ [trimF y]) ++ List.map trimF (List.filter (fun y => decide (y.f0 = (ci : Int))) l) from by simp, Nat.add_assoc]
        exact h1
      · rw [h2, flat_cons, List.append_assoc]
      · rw [List.filter_cons_of_pos (by simpa using hc), List.length_cons, List.length_cons, h3]
    · rw [if_neg hc] at h
      obtain ⟨h0, bodies, h1, h2, h3⟩ := ih' (i + 1) b at_ fs r h hfi hr (by omega)
      rw [List.filter_cons_of_neg (by simpa using hc)]
      exact ⟨h0, bodies, h1, h2, h3⟩
/-- the entries, by what they have in common -/
def sortedV (fs : Fs) : Nat → Nat → Fs
  | 0, _ => []
  | n + 1, ci => (fs.filter (fun y => y.f0 = (ci : Int))).map trimF ++ sortedV fs n (ci + 1)
def countV (fs : Fs) : Nat → Nat → Nat
  | 0, _ => 0
  | n + 1, ci => 1 + (fs.filter (fun y => y.f0 = (ci : Int))).length + countV fs n (ci + 1)
theorem out_runs (a2 : Int) (ha : 0 ≤ a2 ∧ a2 ≤ 576460752303423488) (fs : Fs) (hfl : fs.length ≤ 4000) (hg : ∀ y ∈ fs, GoodF y) (c : Cs) (hgc : ∀ x ∈ c, GoodC x) :
    ∀ (ci : Nat) (b at_ : List Int) (cs : Cs) (fs0 : Fs) (pm : List (Int × Int)) (r : List Int × List Int), outV fs a2 c ci b at_ = some r → cs.length = ci → pm.length = ci → ci + c.length ≤ 4000 → r.1.length ≤ 1048576 → fs0.length + (sortedV fs c.length ci).length ≤ 2000000 →
      b.length ≤ r.1.length ∧ ∃ bodies pm', Runs a2 b.length cs fs0 pm bodies (cs ++ c.map trimC) (fs0 ++ sortedV fs c.length ci) pm' ∧ r.1 = b ++ flat bodies ∧ bodies.length = countV fs c.length ci := by
  induction c with
  | nil =>
    intro ci b at_ cs fs0 pm r h _ _ _ _ _
    simp only [outV, Option.some.injEq] at h
    subst h
    exact ⟨Nat.le_refl _, [], pm, by simpa [sortedV] using Runs.nil _ _ _ _, by simp [flat], rfl⟩
  | cons x c ih =>
    intro ci b at_ cs fs0 pm r h hcs hpm hcl hr hf0
    have ih' := ih (fun x hx => hgc x (List.mem_cons_of_mem _ hx))
    have gx := hgc x List.mem_cons_self
    simp only [outV] at h
    obtain ⟨r1, h1, h⟩ := Option.bind_eq_some_iff.1 h
    simp only [List.length_cons, sortedV, List.length_append, List.length_map] at hcl hf0
    have hlf : (fs.filter (fun y => decide (y.f0 = (ci : Int)))).length ≤ 4000 := Nat.le_trans (List.length_filter_le _ _) hfl
    obtain ⟨P, p1, p2, p3, p4, p5⟩ := cie_step a2 x gx b.length cs fs0 pm (by omega)
    rw [p1] at h1
    obtain ⟨k0, b2, pm2, q4, q5, q6⟩ := ih' (ci + 1) r1.1 r1.2 (cs ++ [trimC x]) (fs0 ++ (fs.filter (fun y => y.f0 = (ci : Int))).map trimF) (((b.length : Int), (cs.length : Int)) :: pm) r h (by rw [List.length_append, List.length_singleton, hcs]) (by rw [List.length_cons, hpm]) (by omega) hr (by rw [List.length_append, List.length_map]; omega)
    have hget : (rd_T69 (cs ++ [trimC x]) (ci : Int)).f0 = x.f0 := by
      unfold rd_T69
      rw [Int.toNat_natCast, List.getD_eq_getElem?_getD, ← hcs, List.getElem?_concat_length]
      rfl
    have hle : b.length ≤ (b ++ recP P).length := by rw [List.length_append]; exact Nat.le_add_right _ _
    obtain ⟨k1, b1, q1, q2, q3⟩ := in_runs a2 ha ci b.length x.f0 (cs ++ [trimC x]) (by rw [List.length_append, List.length_singleton]; omega) hget (((b.length : Int), (cs.length : Int)) :: pm) (by rw [lookI_cons, if_pos rfl, hcs]) fs hg 0 (b ++ recP P) at_ fs0 r1 h1 hle (Nat.le_trans k0 hr) (by omega)
    clear h h1 p1
    refine ⟨Nat.le_trans hle (Nat.le_trans k1 k0), P :: (b1 ++ b2), pm2, ?_, ?_, ?_⟩
    · refine Runs.cons p5 p2 p3 p4 ?_
      rw [List.length_append, recP_length, ← Nat.add_assoc] at q1
      have q7 := Runs.append q1 (by
        rw [show b.length + 4 + P.length + (flat b1).length = r1.1.length from by rw [q2, List.length_append, List.length_append, recP_length]; omega]
        exact q4)
      simpa [List.append_assoc, sortedV] using q7
    · rw [q5, q2, flat_cons, flat_append]
      simp
    · rw [List.length_cons, List.length_append, q3, q6, List.length_cons, countV]
      omega
end Go.Proofs.Ytfgfnflhdabmcaa.EhB
end
section
namespace Go.Proofs.Ytfgfnflhdabmcaa.EhB
open Go.RowKit Go.Proofs.Ytfgfnflhdabmcaa.G Go.Proofs.YtfgfnflhdabmcaaW.PrintWords Go.Proofs.YtfgfnflhdabmcaaW.PrintLast Go.Proofs.YtfgfnflhdabmcaaW.PrintMore Go.Proofs.Ytfgfnflhdabmcaa.Bit Go.Proofs.Ytfgfnflhdabmcaa.Leb Go.Proofs.Ytfgfnflhdabmcaa.Eh Go.Proofs.Ytfgfnflhdabmcaa.EhOf
open Go.Proofs.Ytfgfnflhdabmcaa.EhRd (gR opsV cieV fdeV lookI lookI_cons trim readR finV readF)
open Go.Proofs.Ytfgfnflhdabmcaa.Cfa (opl)
theorem count_sorted (fs : Fs) : ∀ n ci, countV fs n ci = n + (sortedV fs n ci).length := by
  intro n
  induction n with
  | zero => intro ci; rfl
  | succ n ih =>
    intro ci
    simp only [countV, sortedV, List.length_append, List.length_map]
    rw [ih]
    omega
theorem filt_add (ci n : Nat) (l : Fs) : (l.filter (fun y => decide (y.f0 = (ci : Int)))).length + (l.filter (fun y => decide (((ci + 1 : Nat) : Int) ≤ y.f0 ∧ y.f0 < ((ci + 1 + n : Nat) : Int)))).length = (l.filter (fun y => decide ((ci : Int) ≤ y.f0 ∧ y.f0 < ((ci + (n + 1) : Nat) : Int)))).length := by
  induction l with
  | nil => rfl
  | cons y l ih =>
    simp only [List.filter_cons]
    by_cases h1 : y.f0 = (ci : Int)
    · rw [if_pos (by simpa using h1), if_neg (by simp; omega), if_pos (by simp; omega), List.length_cons, List.length_cons]
      omega
    · rw [if_neg (by simpa using h1)]
      by_cases h2 : ((ci + 1 : Nat) : Int) ≤ y.f0 ∧ y.f0 < ((ci + 1 + n : Nat) : Int)
      · rw [if_pos (by simpa using h2), if_pos (by simp; omega), List.length_cons, List.length_cons]
        omega
      · rw [if_neg (by simpa using h2), if_neg (by simp; omega)]
        exact ih
theorem sorted_len (fs : Fs) : ∀ n ci, (sortedV fs n ci).length = (fs.filter (fun y => decide ((ci : Int) ≤ y.f0 ∧ y.f0 < ((ci + n : Nat) : Int)))).length := by
  intro n
  induction n with
  | zero =>
    intro ci
    rw [List.filter_eq_nil_iff.2 (fun y _ => by simp only [decide_eq_true_eq]; omega)]
    rfl
  | succ n ih =>
    intro ci
    simp only [sortedV, List.length_append, List.length_map]
    rw [ih, ← filt_add]
theorem sorted_all (fs : Fs) (n : Nat) (h : ∀ y ∈ fs, 0 ≤ y.f0 ∧ y.f0 < (n : Int)) : (sortedV fs n 0).length = fs.length := by
  rw [sorted_len, List.filter_eq_self.2 (fun y hy => by have := h y hy; simp; omega)]
theorem sorted_mem (fs : Fs) : ∀ n ci, ∀ z ∈ sortedV fs n ci, ∃ y ∈ fs, z = trimF y := by
  intro n
  induction n with
  | zero => intro ci z hz; cases hz
  | succ n ih =>
    intro ci z hz
    simp only [sortedV] at hz
    rcases List.mem_append.1 hz with hz | hz
    · obtain ⟨y, hy, rfl⟩ := List.mem_map.1 hz
      exact ⟨y, (List.mem_filter.1 hy).1, rfl⟩
    · exact ih _ z hz
theorem check_all {c : Cs} {f : Fs} (h0 : c.length ≤ 4000 ∧ f.length ≤ 4000) (h1 : ∀ x ∈ c, okC0 x = true) (h2 : ∀ y ∈ f, okF0 y = true) (h3 : ∀ x ∈ c, okC1 x = true) (h4 : ∀ y ∈ f, okF1 c.length y = true) (h5 : ∀ x ∈ c, okC2 x = true) (h6 : ∀ y ∈ f, okF2 c y = true) : checkV c f = 0 := by
  unfold checkV
  rw [if_neg (by omega), if_neg (by rw [List.all_eq_true.2 h1]; decide), if_neg (by rw [List.all_eq_true.2 h2]; decide), if_neg (by rw [List.all_eq_true.2 h3]; decide), if_neg (by rw [List.all_eq_true.2 h4]; decide), if_neg (by rw [List.all_eq_true.2 h5]; decide), if_neg (by rw [List.all_eq_true.2 h6]; decide)]
theorem rd_trim (c : Cs) (i : Int) (h0 : 0 ≤ i) (h1 : i < (c.length : Int)) : rd_T69 (c.map trimC) i = trimC (rd_T69 c i) := by
  unfold rd_T69
  have h : i.toNat < c.length := by omega
  simp [List.getD_eq_getElem?_getD, h]
/-- a good table is good without Nops at its programs' ends -/
theorem check_trim {c : Cs} {fs : Fs} (h : checkV c fs = 0) : checkV (c.map trimC) (sortedV fs c.length 0) = 0 ∧ (sortedV fs c.length 0).length = fs.length := by
  obtain ⟨hc, hf, g0, g1, g2, g3, g4, g5⟩ := check_good h
  have hr : ∀ y ∈ fs, 0 ≤ y.f0 ∧ y.f0 < (c.length : Int) := fun y hy => by
    have := g3 y hy
    simp only [okF1, Bool.and_eq_true, decide_eq_true_eq] at this
    omega
  have hl := sorted_all fs c.length hr
  refine ⟨?_, hl⟩
  refine check_all (by rw [List.length_map, hl]; omega) ?_ ?_ ?_ ?_ ?_ ?_
  · intro x' hx'
    obtain ⟨x, hx, rfl⟩ := List.mem_map.1 hx'
    have := g0 x hx
    have h2 := trim_len x.f1
    simp only [okC0, decide_eq_true_eq] at this ⊢
    show (trim x.f1).length ≤ 3992
    omega
  · intro y' hy'
    obtain ⟨y, hy, rfl⟩ := sorted_mem _ _ _ _ hy'
    have := g1 y hy
    have h2 := trim_len y.f3
    simp only [okF0, decide_eq_true_eq] at this ⊢
    show (trim y.f3).length ≤ 3992
    omega
  · intro x' hx'
    obtain ⟨x, hx, rfl⟩ := List.mem_map.1 hx'
    exact g2 x hx
  · intro y' hy'
    obtain ⟨y, hy, rfl⟩ := sorted_mem _ _ _ _ hy'
    rw [List.length_map]
    exact g3 y hy
  · intro x' hx'
    obtain ⟨x, hx, rfl⟩ := List.mem_map.1 hx'
    have h1 := g4 x hx
    have h2 := g0 x hx
    simp only [okC2, okC0, decide_eq_true_eq] at h1 h2 ⊢
    exact rows_trim (b := []) (by omega) (by simp) h1
  · intro y' hy'
    obtain ⟨y, hy, rfl⟩ := sorted_mem _ _ _ _ hy'
    have h1 := g5 y hy
    have h2 := g1 y hy
    obtain ⟨r0, r1⟩ := hr y hy
    have hm : rd_T69 c y.f0 ∈ c := by
      unfold rd_T69
      have h : y.f0.toNat < c.length := by omega
      rw [List.getD_eq_getElem?_getD, List.getElem?_eq_getElem h]
      exact List.getElem_mem h
    have h3 := g0 _ hm
    simp only [okF2, okF0, okC0, decide_eq_true_eq] at h1 h2 h3 ⊢
    show (Cfa.rowsOf (opl (rd_T69 (c.map trimC) y.f0).f1) (opl (trim y.f3)) y.f2).2 = 0
    rw [rd_trim c y.f0 r0 r1]
    exact rows_trim (by omega) (by omega) h1
def tailV (e : Bool) : List Int := if e = true then [0, 0, 0, 0] else []
/-- what Write answers to a good table -/
theorem wr_good (c : Cs) (fs : Fs) (a2 : Int) (e : Bool) (h : (wrV c fs a2 e).2.2 = 0) :
    (0 ≤ a2 ∧ a2 ≤ 576460752303423488) ∧ checkV c fs = 0 ∧ (wrV c fs a2 e).1.length ≤ 1048576 ∧ (wrV c fs a2 e).2.1.length = fs.length ∧
    ∃ bodies pm', Runs a2 0 [] [] [] bodies (c.map trimC) (sortedV fs c.length 0) pm' ∧ (wrV c fs a2 e).1 = flat bodies ++ tailV e ∧ bodies.length = c.length + fs.length := by
  unfold wrV at h ⊢
  by_cases g : checkV c fs = 0
  · rw [if_pos g] at h ⊢
    obtain ⟨hc, hf, g0, g1, g2, g3, g4, g5⟩ := check_good g
    have hct := check_trim g
    by_cases r1 : a2 < 0 ∨ 576460752303423488 < a2
    · rw [if_pos r1] at h
      cases h
    rw [if_neg r1] at h ⊢
    have ha : 0 ≤ a2 ∧ a2 ≤ 576460752303423488 := by omega
    have hgc : ∀ x ∈ c, GoodC x := fun x hx => by
      have h0 := g0 x hx
      have h2 := g4 x hx
      simp only [okC0, okC2, decide_eq_true_eq] at h0 h2
      exact ⟨g2 x hx, h0, (rows_may (b := []) h2).1⟩
    have hgf : ∀ y ∈ fs, GoodF y := fun y hy => by
      have h0 := g1 y hy
      have h2 := g5 y hy
      simp only [okF0, okF2, decide_eq_true_eq] at h0 h2
      exact ⟨okF_of (g1 y hy) (g3 y hy), h0, (rows_may h2).2⟩
    cases e1 : outV fs a2 c 0 [] (List.replicate fs.length 0) with
    | none => rw [e1] at h; cases h
    | some r =>
      rw [e1] at h
      simp only at h ⊢
      have hat : ∀ (l : Cs) (ci : Nat) (b at_ : List Int) (r : List Int × List Int), outV fs a2 l ci b at_ = some r → r.2.length = at_.length := by
        intro l
        induction l with
        | nil =>
          intro ci b at_ r h
          simp only [outV, Option.some.injEq] at h
          subst h
          rfl
        | cons x l ih =>
          intro ci b at_ r h
          simp only [outV] at h
          obtain ⟨r1, h1, h⟩ := Option.bind_eq_some_iff.1 h
          rw [ih _ _ _ _ h, (in_len _ _ _ _ fs (fun y hy => (hgf y hy).ok) _ _ _ _ h1).2]
      have hat1 := hat c 0 [] _ r e1
      rw [List.length_replicate] at hat1
      have hle : r.1.length ≤ (if e = true then r.1 ++ [0, 0, 0, 0] else r.1).length := by
        split
        · rw [List.length_append]; exact Nat.le_add_right _ _
        · exact Nat.le_refl _
      have hx : (if e = true then r.1 ++ [0, 0, 0, 0] else r.1) = r.1 ++ tailV e := by
        unfold tailV
        cases e <;> simp
      unfold lastV at h ⊢
      rw [hx] at h hle ⊢
      by_cases c1 : (((r.1 ++ tailV e).length : Nat) : Int) > 1048576
      · rw [if_pos c1] at h
        cases h
      rw [if_neg c1]
      obtain ⟨_, bodies, pm', q1, q2, q3⟩ := out_runs a2 ha fs hf hgf c hgc 0 [] _ [] [] [] r e1 rfl rfl (by omega) (by omega) (by rw [hct.2]; simp; omega)
      refine ⟨ha, g, by show (r.1 ++ tailV e).length ≤ 1048576; omega, hat1, bodies, pm', by simpa using q1, by rw [q2]; simp, ?_⟩
      rw [q3, count_sorted, hct.2]
  · rw [if_neg g] at h
    exact absurd h g
theorem flat_len {a2 : Int} {at_ : Nat} {cs cs1 : Cs} {fs fs1 : Fs} {pm pm1 : List (Int × Int)} {l : List (List Int)} (h : Runs a2 at_ cs fs pm l cs1 fs1 pm1) : 8 * l.length ≤ (flat l).length ∧ (flat l).length % 8 = 0 := by
  induction h with
  | nil => simp [flat]
  | cons h1 h3 h4 h5 h6 ih =>
    rw [flat_cons, List.length_append, recP_length, List.length_cons]
    omega
theorem runs_last {a2 : Int} {at_ : Nat} {cs cs1 : Cs} {fs fs1 : Fs} {pm pm1 : List (Int × Int)} {l : List (List Int)} (h : Runs a2 at_ cs fs pm l cs1 fs1 pm1) (hne : l ≠ []) : ∃ init last cs2 fs2 pm2, l = init ++ [last] ∧ Runs a2 at_ cs fs pm init cs2 fs2 pm2 ∧ last.length % 8 = 4 ∧ last.length ≤ 200000 ∧ Byte last := by
  induction h with
  | nil => exact absurd rfl hne
  | @cons at_ cs cs1 cs2 fs fs1 fs2 pm pm1 pm2 pb l h1 h3 h4 h5 h6 ih =>
    by_cases hl : l = []
    · subst hl
      exact ⟨[], pb, _, _, _, rfl, Runs.nil _ _ _ _, h3, h4, h5⟩
    · obtain ⟨init, last, cs3, fs3, pm3, rfl, q1, q2⟩ := ih hl
      exact ⟨pb :: init, last, _, _, _, rfl, Runs.cons h1 h3 h4 h5 q1, q2⟩
/-- with a byte less it is none -/
theorem read_short (c : Cs) (fs : Fs) (a2 : Int) (h : (wrV c fs a2 false).2.2 = 0) (hne : (wrV c fs a2 false).1 ≠ []) : readF ((wrV c fs a2 false).1.take ((wrV c fs a2 false).1.length - 1)) a2 = some ([], [], 140) := by
  obtain ⟨ha, hg, hl, _, bodies, pm', q1, q2, q3⟩ := wr_good c fs a2 false h
  generalize (wrV c fs a2 false).1 = L at hl q2 hne ⊢
  rw [show tailV false = [] from rfl, List.append_nil] at q2
  obtain ⟨init, last, cs2, fs2, pm2, rfl, r1, r2, r3, r4⟩ := runs_last q1 (by intro e; rw [e] at q2; exact hne q2)
  have hfl := flat_len r1
  have hll : L.length = (flat init).length + (4 + last.length) := by rw [q2, flat_append, List.length_append, flat_cons, List.length_append, recP_length]; rfl
  have hL : L = flat init ++ low4 (last.length : Int) ++ last := by
    rw [q2, flat_append, flat_cons]
    simp [recP, flat]
  have hne2 : last ≠ [] := by intro e; rw [e] at r2; cases r2
  have hT : L.take (L.length - 1) = flat init ++ low4 (last.length : Int) ++ last.dropLast := by
    have h1 := List.dropLast_eq_take (l := L)
    rw [← h1, hL, List.dropLast_append_of_ne_nil hne2]
  have hll2 : (L.take (L.length - 1)).length = L.length - 1 := by rw [List.length_take]; omega
  have hby : Byte (L.take (L.length - 1)) := fun x hx => by
    have := q1.byte
    rw [← q2] at this
    exact this x (List.mem_of_mem_take hx)
  unfold readF
  rw [if_pos ⟨by omega, ha⟩, hll2]
  obtain ⟨k, hk⟩ : ∃ k, L.length - 1 + 1 = (k + 1) + init.length := ⟨L.length - init.length - 1, by omega⟩
  rw [hk]
  have hr := read_runs r1 (L.take (L.length - 1)) [] (low4 (last.length : Int) ++ last.dropLast) (k + 1) (by rw [hT]; simp) rfl (by omega) hby
  rw [show ((0 : Nat) : Int) = 0 from rfl] at hr
  have hg := gR_low (last.length : Int) (by omega) (by omega) (flat init) last.dropLast (by rw [← hT]; exact hby) (by rw [← hT]; omega)
  rw [← hT] at hg
  rw [hr, Nat.zero_add, readR, if_pos (by omega), if_pos (by omega), hg, Option.bind_some, if_neg (by omega), if_pos (by
    refine ⟨?_, by omega⟩
    rw [Int.tmod_eq_emod_of_nonneg (by omega)]
    omega), if_pos (by omega)]
end Go.Proofs.Ytfgfnflhdabmcaa.EhB
end
section
namespace Go.Proofs.Ytfgfnflhdabmcaa.Cfa
open Go.RowKit Go.Proofs.Ytfgfnflhdabmcaa.G Go.Proofs.YtfgfnflhdabmcaaW.PrintWords Go.Proofs.YtfgfnflhdabmcaaW.PrintLast Go.Proofs.YtfgfnflhdabmcaaW.PrintMore
def conv (l : List S97) : List S105 := l.map fun o => ⟨o.f0, o.f1, o.f2⟩
theorem conv_length (l : List S97) : (conv l).length = l.length := by simp [conv]
end Go.Proofs.Ytfgfnflhdabmcaa.Cfa
end
section
namespace Go.Proofs.Ytfgfnflhdabmcaa.Eh
open Go.RowKit Go.Proofs.Ytfgfnflhdabmcaa.G Go.Proofs.YtfgfnflhdabmcaaW.PrintWords Go.Proofs.YtfgfnflhdabmcaaW.PrintLast Go.Proofs.YtfgfnflhdabmcaaW.PrintMore
def cieV (x : S43) : S69 := ⟨x.f0, Cfa.conv x.f1⟩
def fdeV (y : S61) : S46 := ⟨y.f0, y.f1, y.f2, Cfa.conv y.f3⟩
theorem lops_l0 (l : List S97) (hl : l.length < 5864062014805) (d : Nat) : ∀ (k n : Nat), n + d = l.length → d < k → gangwaylaw14_ops.l0 k l (Cfa.conv (l.take n)) (n : Int) = some (Cfa.conv l) := by
  induction d with
  | zero =>
    intro k n h hk
    obtain ⟨k, rfl⟩ : ∃ m, k = m + 1 := ⟨k - 1, by omega⟩
    rw [gangwaylaw14_ops.l0, if_neg (by omega), List.take_of_length_le (by omega)]
  | succ d ih =>
    intro k n h hk
    obtain ⟨k, rfl⟩ : ∃ m, k = m + 1 := ⟨k - 1, by omega⟩
    have hn : n < l.length := by omega
    rw [gangwaylaw14_ops.l0, if_pos (by omega), if_pos (by omega), if_pos (by rw [Cfa.conv_length, List.length_take]; omega), show wrap64 ((n : Int) + 1) = ((n + 1 : Nat) : Int) from by unfold wrap64; omega]
    have e : Cfa.conv (l.take n) ++ [(⟨(rd_T97 l (n : Int)).f0, (rd_T97 l (n : Int)).f1, (rd_T97 l (n : Int)).f2⟩ : S105)] = Cfa.conv (l.take (n + 1)) := by
      have hrd : rd_T97 l (n : Int) = l[n] := by simp [rd_T97, List.getD, hn]
      rw [hrd, List.take_succ_eq_append_getElem hn]
      unfold Cfa.conv
      rw [List.map_append]
      rfl
    rw [e]
    exact ih k (n + 1) (by omega) (by omega)
theorem lops_k (l : List S97) (hl : l.length < 5864062014805) (k : Nat) (hk : l.length < k) : gangwaylaw14_ops.f k l = some (Cfa.conv l) := by
  have h := lops_l0 l hl l.length k 0 (by omega) hk
  rw [List.take_zero] at h
  exact h
/-- how many rounds the longest program asks -/
def mostC (l : List S43) : Nat := (l.map fun x => x.f1.length + 1).sum
def mostF (l : List S61) : Nat := (l.map fun y => y.f3.length + 1).sum
theorem mostC_ge (l : List S43) : l.length ≤ mostC l ∧ ∀ x ∈ l, x.f1.length < mostC l := by
  induction l with
  | nil => simp [mostC]
  | cons x l ih =>
    simp only [mostC, List.map_cons, List.sum_cons, List.length_cons] at ih ⊢
    refine ⟨by omega, fun y hy => ?_⟩
    rcases List.mem_cons.1 hy with rfl | hy
    · omega
    · have := ih.2 y hy; omega
theorem mostF_ge (l : List S61) : l.length ≤ mostF l ∧ ∀ y ∈ l, y.f3.length < mostF l := by
  induction l with
  | nil => simp [mostF]
  | cons x l ih =>
    simp only [mostF, List.map_cons, List.sum_cons, List.length_cons] at ih ⊢
    refine ⟨by omega, fun y hy => ?_⟩
    rcases List.mem_cons.1 hy with rfl | hy
    · omega
    · have := ih.2 y hy; omega
theorem tables_l1 (cs : List S69) (l : List S61) (hl : l.length < 2932031007402) (ho : ∀ y ∈ l, y.f3.length < 5864062014805) (d : Nat) :
    ∀ (k n : Nat), n + d = l.length → mostF l + d < k → gangwaylaw14_tables.l1 k l cs ((l.take n).map fdeV) (n : Int) = some (cs, l.map fdeV) := by
  induction d with
  | zero =>
    intro k n h hk
    obtain ⟨k, rfl⟩ : ∃ m, k = m + 1 := ⟨k - 1, by omega⟩
    rw [gangwaylaw14_tables.l1, if_neg (by omega), List.take_of_length_le (by omega)]
  | succ d ih =>
    intro k n h hk
    obtain ⟨k, rfl⟩ : ∃ m, k = m + 1 := ⟨k - 1, by omega⟩
    have hn : n < l.length := by omega
    have hrd : rd_T61 l (n : Int) = l[n] := by simp [rd_T61, List.getD, hn]
    have hm := List.getElem_mem hn
    rw [gangwaylaw14_tables.l1, if_pos (by omega), if_pos (by omega), hrd, lops_k _ (ho _ hm) k (by have := (mostF_ge l).2 _ hm; omega)]
    simp only [Option.bind_some]
    rw [if_pos (by rw [List.length_map, List.length_take]; omega), show wrap64 ((n : Int) + 1) = ((n + 1 : Nat) : Int) from by unfold wrap64; omega]
    have e : (l.take n).map fdeV ++ [(⟨l[n].f0, l[n].f1, l[n].f2, Cfa.conv l[n].f3⟩ : S46)] = (l.take (n + 1)).map fdeV := by
      rw [List.take_succ_eq_append_getElem hn, List.map_append]
      rfl
    rw [e]
    exact ih k (n + 1) (by omega) (by omega)
theorem tables_l0 (cl : List S43) (hc : cl.length < 4398046511104) (hco : ∀ x ∈ cl, x.f1.length < 5864062014805) (l : List S61) (hl : l.length < 2932031007402) (ho : ∀ y ∈ l, y.f3.length < 5864062014805) (d : Nat) :
    ∀ (k n : Nat), n + d = cl.length → mostC cl + d + mostF l + l.length + 1 < k → gangwaylaw14_tables.l0 k cl l ((cl.take n).map cieV) (n : Int) = some (cl.map cieV, l.map fdeV) := by
  induction d with
  | zero =>
    intro k n h hk
    obtain ⟨k, rfl⟩ : ∃ m, k = m + 1 := ⟨k - 1, by omega⟩
    rw [gangwaylaw14_tables.l0, if_neg (by omega), List.take_of_length_le (by omega)]
    have h1 := tables_l1 (cl.map cieV) l hl ho l.length k 0 (by omega) (by omega)
    rw [List.take_zero] at h1
    exact h1
  | succ d ih =>
    intro k n h hk
    obtain ⟨k, rfl⟩ : ∃ m, k = m + 1 := ⟨k - 1, by omega⟩
    have hn : n < cl.length := by omega
    have hrd : rd_T43 cl (n : Int) = cl[n] := by simp [rd_T43, List.getD, hn]
    have hm := List.getElem_mem hn
    rw [gangwaylaw14_tables.l0, if_pos (by omega), if_pos (by omega), hrd, lops_k _ (hco _ hm) k (by have := (mostC_ge cl).2 _ hm; omega)]
    simp only [Option.bind_some]
    rw [if_pos (by rw [List.length_map, List.length_take]; omega), show wrap64 ((n : Int) + 1) = ((n + 1 : Nat) : Int) from by unfold wrap64; omega]
    have e : (cl.take n).map cieV ++ [(⟨cl[n].f0, Cfa.conv cl[n].f1⟩ : S69)] = (cl.take (n + 1)).map cieV := by
      rw [List.take_succ_eq_append_getElem hn, List.map_append]
      rfl
    rw [e]
    exact ih k (n + 1) (by omega) (by omega)
theorem tables_k (cl : List S43) (hc : cl.length < 4398046511104) (hco : ∀ x ∈ cl, x.f1.length < 5864062014805) (l : List S61) (hl : l.length < 2932031007402) (ho : ∀ y ∈ l, y.f3.length < 5864062014805) (k : Nat) (hk : 2 * mostC cl + 2 * mostF l + 2 < k) :
    gangwaylaw14_tables.f k cl l = some (cl.map cieV, l.map fdeV) := by
  have h := tables_l0 cl hc hco l hl ho cl.length k 0 (by omega) (by have := (mostC_ge cl).1; have := (mostF_ge l).1; omega)
  rw [List.take_zero] at h
  exact h
theorem live_60 : gangwaylaw14_live.f 60 = some true := by decide +kernel
theorem live_k (k : Nat) (hk : 60 ≤ k) : gangwaylaw14_live.f k = some true := at_rounds (g := fun k => gangwaylaw14_live.f k) (fun k => gangwaylaw14_live.mono k) hk live_60
end Go.Proofs.Ytfgfnflhdabmcaa.Eh
end
section
namespace Go.Proofs.Ytfgfnflhdabmcaa.Pure
open Go.RowKit Go.Proofs.Ytfgfnflhdabmcaa.G Go.Proofs.Ytfgfnflhdabmcaa.Stmt Go.Proofs.YtfgfnflhdabmcaaW.PrintWords Go.Proofs.YtfgfnflhdabmcaaW.PrintLast Go.Proofs.YtfgfnflhdabmcaaW.PrintMore Go.Proofs.Ytfgfnflhdabmcaa.Bit Go.Proofs.Ytfgfnflhdabmcaa.Leb Go.Proofs.Ytfgfnflhdabmcaa.Eh Go.Proofs.Ytfgfnflhdabmcaa.EhOf Go.Proofs.Ytfgfnflhdabmcaa.EhB
theorem num_f (x : Int) : gangwaylaw14_num.f x = some x := rfl
theorem low_digits (n : Nat) (hn : n ≤ 200000) : low4 (n : Int) = [(n : Int) % 256, (n : Int) / 256 % 256, (n : Int) / 65536 % 256, 0] := by
  unfold low4
  simp only [leB]
  congr 1
  · omega
  congr 1
  · omega
  congr 1
  · omega
  congr 1
  omega
theorem sum_digits (p n : Nat) (hp : p ≤ 1048576) (hn : n ≤ 200000) : wrap64 (wrap64 (wrap64 (wrap64 (wrap64 ((p : Int) + 4) + wrap64 ((n : Int) % 256)) + wrap64 (wrap64 ((n : Int) / 256 % 256) * 256)) + wrap64 (wrap64 ((n : Int) / 65536 % 256) * 65536)) + wrap64 (wrap64 0 * 16777216)) = ((p + (4 + n) : Nat) : Int) := by
  have h : ∀ x : Int, 0 ≤ x → x ≤ 1000000000000 → wrap64 x = x := fun x h0 h1 => by unfold wrap64; omega
  have ha : 0 ≤ (n : Int) % 256 ∧ (n : Int) % 256 < 256 := by omega
  have hb : 0 ≤ (n : Int) / 256 % 256 ∧ (n : Int) / 256 % 256 < 256 := by omega
  have hc : 0 ≤ (n : Int) / 65536 % 256 ∧ (n : Int) / 65536 % 256 < 256 := by omega
  have hn2 : (n : Int) = (n : Int) % 256 + (n : Int) / 256 % 256 * 256 + (n : Int) / 65536 % 256 * 65536 := by omega
  generalize (n : Int) % 256 = a at *
  generalize (n : Int) / 256 % 256 = b at *
  generalize (n : Int) / 65536 % 256 = c at *
  rw [h a (by omega) (by omega), h b (by omega) (by omega), h c (by omega) (by omega), h 0 (by omega) (by omega), h (b * 256) (by omega) (by omega), h (c * 65536) (by omega) (by omega), h (0 * 16777216) (by omega) (by omega), h ((p : Int) + 4) (by omega) (by omega)]
  rw [h ((p : Int) + 4 + a) (by omega) (by omega), h ((p : Int) + 4 + a + b * 256) (by omega) (by omega), h ((p : Int) + 4 + a + b * 256 + c * 65536) (by omega) (by omega), h _ (by omega) (by omega)]
  omega
theorem rd_pre (pre l : List Int) (i : Nat) : rd (pre ++ l) ((pre.length + i : Nat) : Int) = rd l (i : Int) := by
  unfold rd
  rw [Int.toNat_natCast, Int.toNat_natCast, List.getD_eq_getElem?_getD, List.getD_eq_getElem?_getD, List.getElem?_append_right (by omega), Nat.add_sub_cancel_left]
theorem w1n (n : Nat) (h : n ≤ 2000000) : wrap64 ((n : Int) + 1) = ((n + 1 : Nat) : Int) := by unfold wrap64; omega
theorem w8n (p : Nat) (h : p ≤ 1048576) : wrap64 ((p : Int) + 8) = ((p + 8 : Nat) : Int) ∧ wrap64 ((p : Int) + 1) = ((p + 1 : Nat) : Int) ∧ wrap64 ((p : Int) + 2) = ((p + 2 : Nat) : Int) ∧ wrap64 ((p : Int) + 3) = ((p + 3 : Nat) : Int) := by
  refine ⟨?_, ?_, ?_, ?_⟩ <;> unfold wrap64 <;> omega
theorem whole_l0 (cl : List S43) (fl : List S61) (a2 : Int) (L at_ : List Int) (hL : L.length ≤ 1048576) (bodies : List (List Int)) : ∀ (pre : List Int) (n k : Nat), L = pre ++ flat bodies → pre.length % 8 = 0 → (∀ pb ∈ bodies, pb.length % 8 = 4 ∧ pb.length ≤ 200000) → n + bodies.length ≤ 2000000 →
    gangwaylaw14_EhframeWhole.l0 (k + 2 * bodies.length) cl fl a2 L at_ (n : Int) (pre.length : Int) = gangwaylaw14_EhframeWhole.l0 k cl fl a2 L at_ ((n + bodies.length : Nat) : Int) (L.length : Int) := by
  induction bodies with
  | nil =>
    intro pre n k h _ _ _
    have : L.length = pre.length := by rw [h]; simp [flat]
    simp [this]
  | cons pb l ih =>
    intro pre n k h h8 hb hbl
    obtain ⟨p4, p2⟩ := hb pb List.mem_cons_self
    simp only [List.length_cons] at hbl
    have ih2 := ih (pre ++ recP pb) (n + 1) k (by rw [h, flat_cons]; simp) (by rw [List.length_append, recP_length]; omega) (fun q hq => hb q (List.mem_cons_of_mem _ hq)) (by omega)
    rw [List.length_append, recP_length] at ih2
    have hd := low_digits pb.length p2
    have hL2 : L = pre ++ ([(pb.length : Int) % 256, (pb.length : Int) / 256 % 256, (pb.length : Int) / 65536 % 256, 0] ++ (pb ++ flat l)) := by
      rw [h, flat_cons, recP, hd, List.append_assoc]
    have hlen : L.length = pre.length + (4 + pb.length + (flat l).length) := by rw [hL2]; simp; omega
    have r0 : rd L (pre.length : Int) = (pb.length : Int) % 256 := by rw [hL2, show (pre.length : Int) = ((pre.length + 0 : Nat) : Int) from rfl, rd_pre]; rfl
    have r1 : rd L ((pre.length + 1 : Nat) : Int) = (pb.length : Int) / 256 % 256 := by rw [hL2, rd_pre]; rfl
    have r2 : rd L ((pre.length + 2 : Nat) : Int) = (pb.length : Int) / 65536 % 256 := by rw [hL2, rd_pre]; rfl
    have r3 : rd L ((pre.length + 3 : Nat) : Int) = 0 := by rw [hL2, rd_pre]; rfl
    obtain ⟨w8, w1, w2, w3⟩ := w8n pre.length (by omega)
    have hs := sum_digits pre.length pb.length (by omega) p2
    have HS := Aside0.mk hs
    clear hs
    have hm : (Int.tmod (pre.length : Int) 8 != 0) = false := by
      rw [Int.tmod_eq_emod_of_nonneg (by omega)]
      have : (pre.length : Int) % 8 = 0 := by omega
      rw [this]
      rfl
    have hw : wrap64 ((n : Int) + 1) = ((n + 1 : Nat) : Int) := w1n n (by omega)
    rw [List.length_cons, show k + 2 * (l.length + 1) = (k + 2 * l.length) + 1 + 1 from by omega, gangwaylaw14_EhframeWhole.l0, if_pos (by omega), w8, if_neg (by omega), hm, gangwaylaw14_EhframeWhole.j1, if_neg (by decide), if_pos (by omega), if_pos (by omega)]
    rw [w1, if_pos (by omega), if_pos (by omega), w2, if_pos (by omega), if_pos (by omega), w3, if_pos (by omega), if_pos (by omega), r0, r1, r2, r3, HS.out, if_neg (by omega), hw, ih2, show n + 1 + l.length = n + (l.length + 1) from by omega]
theorem EhframeWhole : Stmt.EhframeWhole := by
  intro l0 l1 a2 w0 w1 w2
  obtain ⟨c1, c2, c3⟩ := w0
  obtain ⟨f1, f2, f3⟩ := w1
  have hC := (mostC_ge l0).1
  have hF := (mostF_ge l1).1
  obtain ⟨K, hK⟩ : ∃ K, K = 40000 + 4 * mostC l0 + 5 * mostF l1 + 4000 * 4002 + 3000000 := ⟨_, rfl⟩
  refine ⟨K, ?_⟩
  unfold gangwaylaw14_EhframeWhole.f
  rw [tables_k l0 (by omega) (fun x hx => by have := (c3 x hx).2.1; omega) l1 (by omega) (fun y hy => by have := (f3 y hy).2.2.2.1; omega) K (by omega), Option.bind_some]
  simp only
  rw [write_k _ _ a2 false K (by rw [List.length_map, List.length_map]; omega), Option.bind_some, num_f, Option.bind_some]
  by_cases e1 : (wrV (l0.map cieV) (l1.map fdeV) a2 false).2.2 = 0
  · rw [if_pos e1]
    obtain ⟨ha, hg, hl, hat, bodies, pm', q1, q2, q3⟩ := wr_good _ _ a2 false e1
    have hsh := read_short _ _ a2 e1
    obtain ⟨hcl, hfl, -⟩ := check_good hg
    rw [List.length_map] at hcl hfl hat
    rw [List.length_map, List.length_map] at q3
    have hfb := flat_len q1
    generalize (wrV (l0.map cieV) (l1.map fdeV) a2 false).1 = L at hl q2 hsh ⊢
    generalize (wrV (l0.map cieV) (l1.map fdeV) a2 false).2.1 = at_ at hat ⊢
    rw [show tailV false = [] from rfl, List.append_nil] at q2
    have hbl : bodies.length ≤ 1048576 := by rw [q2] at hl; omega
    obtain ⟨m, hm⟩ : ∃ m, K = (m + 3) + 2 * bodies.length := ⟨K - 3 - 2 * bodies.length, by omega⟩
    have hbo : ∀ {at_ : Nat} {cs cs1 : Cs} {fs fs1 : Fs} {pm pm1 : List (Int × Int)} {l : List (List Int)}, Runs a2 at_ cs fs pm l cs1 fs1 pm1 → ∀ pb ∈ l, pb.length % 8 = 4 ∧ pb.length ≤ 200000 := by
      intro at_ cs cs1 fs fs1 pm pm1 l h
      induction h with
      | nil => intro pb hp; cases hp
      | cons h1 h3 h4 h5 h6 ih =>
        intro pb hp
        rcases List.mem_cons.1 hp with rfl | hp
        · exact ⟨h3, h4⟩
        · exact ih pb hp
    have h1 := whole_l0 l0 l1 a2 L at_ hl bodies [] 0 (m + 3) (by rw [q2]; rfl) rfl (hbo q1) (by omega)
    rw [← hm, show (([] : List Int).length : Int) = 0 from rfl, show ((0 : Nat) : Int) = 0 from rfl] at h1
    rw [h1, Nat.zero_add, q3, gangwaylaw14_EhframeWhole.l0, if_neg (by omega), if_pos (by unfold wrap64; omega), hat]
    rw [show (((l1.length : Nat) : Int) != (l1.length : Int)) = false from bne_self_eq_false _, gangwaylaw14_EhframeWhole.j2, if_neg (by decide)]
    have hlive := live_k (m + 1) (by omega)
    by_cases e2 : (L.length : Int) = 0
    · rw [if_pos e2, hlive]
      rfl
    · rw [if_neg e2]
      have hw : wrap64 ((L.length : Int) - 1) = ((L.length - 1 : Nat) : Int) := by unfold wrap64; omega
      rw [hw, if_pos (by omega), if_pos (by omega), Int.toNat_natCast]
      rw [show ehframe_Read.f (L.take (L.length - 1)) a2 = some ([], [], 140) from hsh (by intro h; rw [h] at e2; exact e2 rfl), Option.bind_some, num_f, Option.bind_some, if_pos rfl, hlive]
      rfl
  · rw [if_neg e1, live_k K (by omega)]
    rfl
end Go.Proofs.Ytfgfnflhdabmcaa.Pure
end
section
namespace Go.Proofs.Ytfgfnflhdabmcaa.Opening
open Go.ChangeShapes Go.WideShapes Go.Proofs.YtfgfnflhdabmcaaW.PrintWords
/-- A datum of type t opens as a value of kind d: it is well (wf), and its bulk is at least its weight (wt). -/
structure Opens {α : Type} (P : Program) (t : TypeId) (d : Kd α) (wf : α → Prop) (wt : α → Nat) : Prop where
  cells : P.cellsOf t = d.sz
  op : ∀ {H : Type} {enc : TypeId × Value → H} {w : World} {base : Nat} {spare : Nat → Bool} {held : Bool} {fuel : Nat} {cs : List Value} {x : DataW H × List MemPlace},
    DataW.trod enc P w base spare held fuel t cs = some x → (∀ n ∈ x.1.weights P t, n ≤ 140737488351232) → ∃ a : α, d.K w a cs ∧ wf a ∧ wt a ≤ Rows.uptoBulk x.1
theorem opens_int {P : Program} {t : TypeId} (k : IntKind) (ht : P.underlying t = some (.int k)) (hc : P.cellsOf t = 1) : Opens P t (Kd.int k) (fun a => (Lit.int k a).wf = true) (fun _ => 1) :=
  ⟨hc, fun h _ => by
    obtain ⟨n, rfl, rfl, hw⟩ := DataW.trod_int ht h
    exact ⟨n, rfl, hw, by simp [Rows.uptoBulk]⟩⟩
theorem list_of {α : Type} {p : Nat → α → Prop} : ∀ {n : Nat}, (∀ i, i < n → ∃ a, p i a) → ∃ l : List α, l.length = n ∧ ∀ i (h : i < l.length), p i l[i]
  | 0, _ => ⟨[], rfl, fun i h => absurd h (Nat.not_lt_zero _)⟩
  | n + 1, h => by
    obtain ⟨l, hl, hp⟩ := list_of (n := n) (fun i hi => h i (Nat.lt_succ_of_lt hi))
    obtain ⟨a, ha⟩ := h n (Nat.lt_succ_self n)
    refine ⟨l ++ [a], by simp [hl], fun i hi => ?_⟩
    by_cases hlt : i < l.length
    · rw [List.getElem_append_left hlt]
      exact hp i hlt
    · have e : i = n := by simp at hi; omega
      subst e
      rw [List.getElem_append_right (by omega)]
      simpa [hl] using ha
theorem bulk_all {α H : Type} {wt : α → Nat} : ∀ {l : List α} {ds : List (DataW H)}, l.length ≤ ds.length → (∀ i (h : i < l.length) d, ds[i]? = some d → wt l[i] ≤ Rows.uptoBulk d) → (l.map wt).sum ≤ Rows.uptoBulkAll ds
  | [], _, _, _ => by simp
  | a :: l, [], h, _ => by simp at h
  | a :: l, d :: ds, h, hw => by
    have h0 := hw 0 (by simp) d rfl
    have h1 := bulk_all (l := l) (ds := ds) (by simpa using h) (fun i hi d' hd' => hw (i + 1) (by simpa using hi) d' (by simpa using hd'))
    simp only [List.map_cons, List.sum_cons, Rows.uptoBulkAll]
    simp at h0
    omega
theorem weights_all {H : Type} {P : Program} {e : TypeId} : ∀ {ds : List (DataW H)} {d : DataW H}, d ∈ ds → ∀ n ∈ d.weights P e, n ∈ DataW.weightsAll P e ds
  | d0 :: ds, d, h, n, hn => by
    simp only [DataW.weightsAll, List.mem_append]
    cases List.mem_cons.1 h with
    | inl e => subst e; exact .inl hn
    | inr e => exact .inr (weights_all e n hn)
theorem opens_slice {α : Type} {P : Program} {t e : TypeId} {d : Kd α} {wf : α → Prop} {wt : α → Nat} {b : Nat} (ho : Opens P e d wf wt) (ht : P.underlying t = some (.slice e)) (hc : P.cellsOf t = 1) (hb : P.bytesOf e = b) :
    Opens P t (Kd.slice e d) (fun l => l.length * b ≤ 140737488351232 ∧ l.length ≤ 9223372036854775807 ∧ ∀ a ∈ l, wf a) (fun l => (l.map wt).sum + 1) :=
  ⟨hc, fun {H enc w base spare held fuel cs x} h hz => by
    subst hb
    rcases DataW.trod_slice ht h with ⟨rfl, rfl⟩ | ⟨a, len, cap, elems, rest, n, _, rfl, rfl, hb, hl, hm, hlen, hel, hsp, hns⟩
    · exact ⟨[], ⟨none, 0, rfl, Nat.le_refl _, Kd.C_nil d w⟩, ⟨by simp, by simp, by simp⟩, by simp [Rows.uptoBulk]⟩
    · have hm' : cap ≤ 9223372036854775807 := hm
      have hz1 : (elems.length + rest.length) * P.bytesOf e ≤ 140737488351232 := hz _ (by simp [DataW.weights, ht])
      have hz2 : ∀ y ∈ elems, ∀ n ∈ y.1.weights P e, n ≤ 140737488351232 := fun y hy n hn => hz _ (by
        simp only [DataW.weights, ht, List.mem_cons, List.mem_append]
        exact .inr (.inl (weights_all (List.mem_map.2 ⟨y, hy, rfl⟩) n hn)))
      have each : ∀ i, i < len → ∃ a' : α, (∃ cs' y, w.cells? base (a.add (i * P.cellsOf e)) (P.cellsOf e) = some cs' ∧ d.K w a' cs' ∧ elems[i]? = some y ∧ wt a' ≤ Rows.uptoBulk y.1) ∧ wf a' := fun i hi => by
        have h1 := hel i hi
        rw [List.getElem?_eq_getElem (by omega)] at h1
        obtain ⟨cs', h2, h3⟩ := Option.bind_eq_some_iff.1 h1
        obtain ⟨a', k1, k2, k3⟩ := ho.op h3 (hz2 _ (List.getElem_mem _))
        exact ⟨a', ⟨cs', _, h2, k1, List.getElem?_eq_getElem (by omega), k3⟩, k2⟩
      obtain ⟨l, hl1, hl2⟩ := list_of each
      subst hl1
      refine ⟨l, ⟨some a, cap, rfl, hl, rfl, by omega, fun _ => ⟨a, rfl, fun j p hp => ?_⟩⟩, ⟨?_, by omega, fun a' ha' => ?_⟩, ?_⟩
      · obtain ⟨hj, rfl⟩ := List.getElem?_eq_some_iff.1 hp
        obtain ⟨⟨cs', y, h2, k1, _, _⟩, _⟩ := hl2 j hj
        obtain ⟨_, hcl, hcell⟩ := World.cells?_some h2
        refine ⟨cs', by rw [hcl, ho.cells], k1, fun i u hu => ?_⟩
        have hi : i < P.cellsOf e := by rw [← hcl]; exact (List.getElem?_eq_some_iff.1 hu).1
        have := hcell i hi
        rw [hu, ho.cells] at this
        rw [← this]
        congr 1
        unfold Addr.add
        by_cases hi0 : i = 0 <;> by_cases hj0 : j * d.sz = 0 <;> simp [hi0, hj0, Nat.add_assoc]
      · refine Nat.le_trans (Nat.mul_le_mul_right _ ?_) hz1
        omega
      · obtain ⟨j, hj, rfl⟩ := List.getElem_of_mem ha'
        exact (hl2 j hj).2
      · have := bulk_all (l := l) (ds := elems.map (·.1)) (wt := wt) (by simp; omega) (fun i hi dd hd => by
          obtain ⟨⟨_, y, _, _, hy, hw⟩, _⟩ := hl2 i hi
          rw [List.getElem?_map, hy] at hd
          simp at hd
          subst hd
          exact hw)
        simp only [Rows.uptoBulk]
        omega⟩
/-- The fields from one on, whose cells begin at off. -/
def OpensF {α : Type} (P : Program) (fs : List Field) (off : Nat) (d : Kd α) (wf : α → Prop) (wt : α → Nat) : Prop :=
  (∃ f r, fs = f :: r ∧ f.offset = off) ∧
  ∀ {H : Type} {enc : TypeId × Value → H} {w : World} {base : Nat} {spare : Nat → Bool} {held : Bool} {fuel : Nat} {cs : List Value} {xs : List (DataW H × List MemPlace)},
    cs.length = d.sz → xs.length = fs.length → (∀ (i : Nat) (f : Field), fs[i]? = some f → DataW.trod enc P w base spare held fuel f.type ((cs.drop (f.offset - off)).take (P.cellsOf f.type)) = xs[i]? ∧ off ≤ f.offset) →
    (∀ n ∈ DataW.weightsEach P (fs.map (·.type)) (xs.map (·.1)), n ≤ 140737488351232) → ∃ a : α, d.K w a cs ∧ wf a ∧ wt a ≤ Rows.uptoBulkAll (xs.map (·.1))
theorem opensF_one {α : Type} {P : Program} {f : Field} {off : Nat} {d : Kd α} {wf : α → Prop} {wt : α → Nat} (ho : Opens P f.type d wf wt) (hf : f.offset = off) : OpensF P [f] off d wf wt :=
  ⟨⟨f, [], rfl, hf⟩, fun {H enc w base spare held fuel cs xs} hc hx h hz => by
    match xs, hx with
    | [x], _ =>
      have h1 := (h 0 f rfl).1
      rw [hf, Nat.sub_self, List.drop_zero, ho.cells, List.take_of_length_le (by omega)] at h1
      obtain ⟨a, k1, k2, k3⟩ := ho.op (x := x) (by simpa using h1) (fun n hn => hz n (by simp [DataW.weightsEach, hn]))
      exact ⟨a, k1, k2, by simpa [Rows.uptoBulkAll] using k3⟩⟩
theorem opensF_cons {α β : Type} {P : Program} {f : Field} {fs : List Field} {off : Nat} {a : Kd α} {b : Kd β} {wfa : α → Prop} {wta : α → Nat} {wfb : β → Prop} {wtb : β → Nat} (ho : Opens P f.type a wfa wta) (hf : f.offset = off)
    (hr : OpensF P fs (off + a.sz) b wfb wtb) (hge : ∀ g ∈ fs, off + a.sz ≤ g.offset) : OpensF P (f :: fs) off (Kd.pair a b) (fun x => wfa x.1 ∧ wfb x.2) (fun x => wta x.1 + wtb x.2) :=
  ⟨⟨f, fs, rfl, hf⟩, fun {H enc w base spare held fuel cs xs} hc hx h hz => by
    match xs, hx with
    | x :: xs, hx =>
      have hc' : cs.length = a.sz + b.sz := hc
      have h1 := (h 0 f rfl).1
      rw [hf, Nat.sub_self, List.drop_zero, ho.cells] at h1
      obtain ⟨u, k1, k2, k3⟩ := ho.op (x := x) (by simpa using h1) (fun n hn => hz n (by simp [DataW.weightsEach, hn]))
      obtain ⟨v, j1, j2, j3⟩ := hr.2 (cs := cs.drop a.sz) (xs := xs) (by simp; omega) (by simpa using hx) (fun i g hg => by
        obtain ⟨h2, h3⟩ := h (i + 1) g (by simpa using hg)
        have h4 := hge g (List.mem_of_getElem? hg)
        refine ⟨?_, h4⟩
        rw [List.drop_drop, show a.sz + (g.offset - (off + a.sz)) = g.offset - off from by omega]
        simpa using h2) (fun n hn => hz n (by simp [DataW.weightsEach, hn]))
      refine ⟨(u, v), ⟨cs.take a.sz, cs.drop a.sz, (List.take_append_drop _ _).symm, k1, j1⟩, ⟨k2, j2⟩, ?_⟩
      simp only [List.map_cons, Rows.uptoBulkAll]
      omega⟩
theorem opens_struct {α β : Type} {P : Program} {t : TypeId} {fs : Array Field} {d : Kd α} {wf : α → Prop} {wt : α → Nat} (f : β → α) (g : α → β) (hfg : ∀ a, f (g a) = a) (ht : P.underlying t = some (.struct fs)) (hc : P.cellsOf t = d.sz)
    (ho : OpensF P fs.toList 0 d wf wt) : Opens P t (Kd.iso d f) (fun x => wf (f x)) (fun x => wt (f x) + 1) :=
  ⟨hc, fun {H enc w base spare held fuel cs x} h hz => by
    obtain ⟨xs, n, _, rfl, hl, hxl, hx⟩ := DataW.trod_struct ht h
    obtain ⟨a, k1, k2, k3⟩ := ho.2 (cs := cs) (xs := xs) (by rw [hl, hc]) (by simpa using hxl) (fun i fd hfd => ⟨by
      have := hx i fd (by simpa using hfd)
      simpa using this, Nat.zero_le _⟩) (fun m hm => hz m (by simpa [DataW.weights, ht] using hm))
    refine ⟨g a, ?_, ?_, ?_⟩
    · show d.K w (f (g a)) cs
      rw [hfg]
      exact k1
    · rw [hfg]
      exact k2
    · rw [hfg]
      simp only [Rows.uptoBulk]
      omega⟩
/-- The size of each part, out of the row's own reach. -/
theorem weights_of {H : Type} {P : Program} {ts : List TypeId} {ds : List (DataW H)} (h : (DataW.weightsEach P ts ds).all (· ≤ reachBytes) = true) {j : Nat} {t : TypeId} {d : DataW H} (ht : ts[j]? = some t) (hd : ds[j]? = some d) : ∀ n ∈ d.weights P t, n ≤ 140737488351232 := fun n hn => by
  have := List.all_eq_true.1 h _ (DataW.weights_mem_each ht hd n hn)
  exact of_decide_eq_true this
end Go.Proofs.Ytfgfnflhdabmcaa.Opening
end
