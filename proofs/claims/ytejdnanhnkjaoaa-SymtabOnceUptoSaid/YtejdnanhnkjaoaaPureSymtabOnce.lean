/- The plain law of SymtabOnce: each name stands in a table once, and is found where it is told. -/
import Derived.Test.YtejdnanhnkjaoaaStmtSymtabOnce
import Derived.Test.YtejdnanhnkjaoaaSymNames
import Derived.Test.YtejdnanhnkjaoaaLive
namespace Go.Proofs.Ytejdnanhnkjaoaa.Pure
set_option linter.unusedVariables false
set_option linter.unusedSimpArgs false
open Go.RowKit Go.Proofs.Ytejdnanhnkjaoaa.G Go.Proofs.Ytejdnanhnkjaoaa.Stmt Go.Proofs.YtejdnanhnkjaoaaW.PrintWords Go.Proofs.YtejdnanhnkjaoaaW.PrintLast Go.Proofs.YtejdnanhnkjaoaaW.PrintMore Go.Proofs.Ytejdnanhnkjaoaa.Bit Go.Proofs.Ytejdnanhnkjaoaa.Sym

theorem sizeUp_mono (l : List ByteArray) (i d : Nat) : sizeUp l i ≤ sizeUp l (i + d) := by
  induction d with
  | zero => exact Nat.le_refl _
  | succ d ih =>
    rw [← Nat.add_assoc]
    simp only [sizeUp]
    omega
/-- is the name at place i new among the first j? -/
def newTo (l : List ByteArray) (i j : Nat) : Bool := (l.getD i ByteArray.empty).toList != [] && !((l.take j).any fun x => x.toList == (l.getD i ByteArray.empty).toList)
theorem newTo_succ (l : List ByteArray) (i j : Nat) (hj : j < l.length) : newTo l i (j + 1) = if l[j].toList = (l.getD i ByteArray.empty).toList then false else newTo l i j := by
  unfold newTo
  rw [List.take_succ_eq_append_getElem hj, List.any_append]
  generalize l.getD i ByteArray.empty = s
  split
  · rename_i h
    simp [h]
  · rename_i h
    have : (l[j].toList == s.toList) = false := by simpa using h
    simp [this]
theorem rdOf_get (l : List ByteArray) (i : Nat) (h : i < l.length) : rdOf ByteArray.empty l (i : Int) = l[i] := by simp [rdOf, List.getD, h]
theorem rd_get (l : List Int) (i : Nat) (h : i < l.length) : rd l (i : Int) = l[i] := by simp [rd, List.getD, h]
theorem once_l1 (l : List ByteArray) (b at_ : List Int) (ht : Table l b at_) (hl : l.length ≤ 1048576) (i : Nat) (hi : i < l.length) (e : Nat) : ∀ k j, j + e = i → e < k →
    gangwaylaw08_SymtabOnce.l1 k l b at_ (sizeUp l i : Nat) (i : Int) (newTo l i j) (j : Int) = gangwaylaw08_SymtabOnce.l0 (k - e - 1) l b at_ (sizeUp l (i + 1) : Nat) ((i + 1 : Nat) : Int) := by
  have hlen := ht.len
  have hup : sizeUp l (i + 1) ≤ 1048576 := by
    have := sizeUp_mono l (i + 1) (l.length - (i + 1))
    rw [show i + 1 + (l.length - (i + 1)) = l.length from by omega, ← ht.size] at this
    have := ht.small
    omega
  induction e with
  | zero =>
    intro k j hj hk
    obtain ⟨k, rfl⟩ : ∃ m, k = m + 1 := ⟨k - 1, by omega⟩
    obtain rfl : j = i := by omega
    simp only [gangwaylaw08_SymtabOnce.l1]
    rw [if_neg (by omega), wrap64_id (n := (j : Int) + 1) (by omega) (by omega)]
    have hg : l.getD j ByteArray.empty = l[j] := by simp [List.getD, hi]
    have hf : newTo l j j = fresh l j := rfl
    rw [hf]
    simp only [sizeUp] at hup ⊢
    by_cases c : fresh l j = true
    · rw [if_pos c, if_pos (by omega), if_pos (by omega), rdOf_get l j hi]
      rw [if_pos c, hg] at hup ⊢
      rw [wrap64_id (n := ((sizeUp l j : Nat) : Int) + (l[j].size : Int)) (by omega) (by omega), wrap64_id (by omega) (by omega)]
      rw [show k + 1 - 0 - 1 = k from by omega, show ((sizeUp l j : Nat) : Int) + (l[j].size : Int) + 1 = ((sizeUp l j + (l[j].size + 1) : Nat) : Int) from by omega]
      rfl
    · rw [if_neg c, if_neg c]
      rw [show k + 1 - 0 - 1 = k from by omega]
      rfl
  | succ e ih =>
    intro k j hj hk
    obtain ⟨k, rfl⟩ : ∃ m, k = m + 1 := ⟨k - 1, by omega⟩
    have hjl : j < l.length := by omega
    have hg : l.getD i ByteArray.empty = l[i] := by simp [List.getD, hi]
    simp only [gangwaylaw08_SymtabOnce.l1]
    rw [if_pos (by omega), if_pos (by omega), if_pos (by omega), if_pos (by omega), if_pos (by omega), rdOf_get l j hjl, rdOf_get l i hi, wrap64_id (n := (j : Int) + 1) (by omega) (by omega)]
    have hs := newTo_succ l i j hjl
    rw [hg] at hs
    by_cases c : l[j].toList = l[i].toList
    · rw [if_pos c] at hs ⊢
      rw [if_pos (by omega), if_pos (by omega), rd_get at_ j (by omega), rd_get at_ i (by omega), if_pos (ht.same j i (by omega) (by omega) hjl hi ((same_iff _ _).1 c)), ← hs, show (j : Int) + 1 = ((j + 1 : Nat) : Int) from by omega, ih k (j + 1) (by omega) (by omega)]
      congr 1
      omega
    · rw [if_neg c] at hs ⊢
      rw [← hs, show (j : Int) + 1 = ((j + 1 : Nat) : Int) from by omega, ih k (j + 1) (by omega) (by omega)]
      congr 1
      omega
theorem once_l0 (l : List ByteArray) (b at_ : List Int) (ht : Table l b at_) (hl : l.length ≤ 1048576) (d : Nat) : ∀ k i, i + d = l.length → d * (l.length + 3) + b.length + 5 ≤ k →
    gangwaylaw08_SymtabOnce.l0 k l b at_ (sizeUp l i : Nat) (i : Int) = some true := by
  have hlen := ht.len
  have hsm := ht.small
  induction d with
  | zero =>
    intro k i hi hk
    obtain ⟨k, rfl⟩ : ∃ m, k = m + 1 := ⟨k - 1, by omega⟩
    obtain rfl : i = l.length := by omega
    simp only [gangwaylaw08_SymtabOnce.l0]
    rw [if_neg (by omega), ht.size, if_pos rfl, live_true]
    rfl
  | succ d ih =>
    intro k i hi hk
    rw [Nat.succ_mul] at hk
    obtain ⟨k, rfl⟩ : ∃ m, k = m + 2 := ⟨k - 2, by omega⟩
    have hil : i < l.length := by omega
    simp only [gangwaylaw08_SymtabOnce.l0]
    rw [if_pos (by omega), if_pos (by omega), if_pos (by omega), rd_get at_ i (by omega), at_f b _ (by omega) (k + 1) (by omega), ht.found i (by omega) hil]
    simp only [Option.bind_some, gangwaylaw08_num.f]
    rw [if_pos trivial, rdOf_get l i hil, show (l[i].toList != l[i].toList) = false from by simp]
    simp only [gangwaylaw08_SymtabOnce.j1]
    rw [if_neg (by decide), if_pos (by omega), if_pos (by omega)]
    have h0 : ((rdOf ByteArray.empty l (i : Int)).toList != ([] : List UInt8)) = newTo l i 0 := by
      rw [rdOf_get l i hil]
      simp [newTo, List.getD, hil]
    rw [h0]
    have := once_l1 l b at_ ht hl i hil i k 0 (by omega) (by omega)
    rw [show ((0 : Nat) : Int) = 0 from rfl] at this
    rw [this, ih _ (i + 1) (by omega) (by omega)]
theorem SymtabOnce : Stmt.SymtabOnce := by
  intro l0 h1 hb
  have hsum : (l0.map (fun y => (y.size + 1))).sum = (l0.map ByteArray.size).sum + l0.length := by
    clear h1 hb
    induction l0 with
    | nil => rfl
    | cons x xs ih => simp only [List.map_cons, List.sum_cons, List.length_cons, ih]; omega
  rw [hsum] at hb
  refine ⟨l0.length * (l0.length + 3) + 1048576 + 5, ?_⟩
  unfold gangwaylaw08_SymtabOnce.f
  rcases strings_table l0 (by omega) (by omega) with h | h | ⟨b, a, h, ht⟩
  · rw [h]
    simp only [Option.bind_some, gangwaylaw08_num.f]
    rw [if_neg (by decide), if_pos (by decide +kernel), live_true]
    rfl
  · rw [h]
    simp only [Option.bind_some, gangwaylaw08_num.f]
    rw [if_neg (by decide), if_pos (by decide +kernel), live_true]
    rfl
  · rw [h]
    simp only [Option.bind_some, gangwaylaw08_num.f]
    have hsm := ht.small
    rw [if_pos trivial, if_pos (by rw [ht.len])]
    exact once_l0 l0 b a ht (by omega) l0.length _ 0 (by omega) (by omega)
end Go.Proofs.Ytejdnanhnkjaoaa.Pure
