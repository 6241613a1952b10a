/- The plain law of SymtabNames: names as a table, and back from any place, as the reference has it. -/
import Derived.Test.YtejdnanhnkjaoaaStmtSymtabNames
import Derived.Test.YtejdnanhnkjaoaaSymRef
import Derived.Test.YtejdnanhnkjaoaaLive
namespace Go.Proofs.Ytejdnanhnkjaoaa.Pure
set_option linter.unusedVariables false
set_option linter.unusedSimpArgs false
open Go.RowKit Go.Proofs.Ytejdnanhnkjaoaa.G Go.Proofs.Ytejdnanhnkjaoaa.Stmt Go.Proofs.YtejdnanhnkjaoaaW.PrintWords Go.Proofs.YtejdnanhnkjaoaaW.PrintLast Go.Proofs.YtejdnanhnkjaoaaW.PrintMore Go.Proofs.Ytejdnanhnkjaoaa.Bit Go.Proofs.Ytejdnanhnkjaoaa.Sym

theorem ints_l0 (a : List Int) (ha : a.length ≤ 140737488351232) (d : Nat) : ∀ k i, i + d = a.length → d < k → gangwaylaw08_ints.l0 k a a (i : Int) = some true := by
  induction d with
  | zero =>
    intro k i h1 h2
    obtain ⟨k, rfl⟩ : ∃ m, k = m + 1 := ⟨k - 1, by omega⟩
    simp only [gangwaylaw08_ints.l0]
    rw [if_neg (by omega)]
  | succ d ih =>
    intro k i h1 h2
    obtain ⟨k, rfl⟩ : ∃ m, k = m + 1 := ⟨k - 1, by omega⟩
    simp only [gangwaylaw08_ints.l0]
    rw [if_pos (by omega), if_pos (by omega), if_pos (by omega), if_pos trivial, wrap64_id (by omega) (by omega), show (i : Int) + 1 = ((i + 1 : Nat) : Int) from by omega]
    exact ih k (i + 1) (by omega) (by omega)
theorem ints_f (a : List Int) (ha : a.length ≤ 140737488351232) (k : Nat) (hk : a.length < k) : gangwaylaw08_ints.f k a a = some true := by
  unfold gangwaylaw08_ints.f
  rw [if_pos rfl]
  exact ints_l0 a ha a.length k 0 (by omega) hk
theorem spoil_l0 (d : Nat) : ∀ k i (a : List Int), a.length ≤ 140737488351232 → i + d = a.length → d < k → ∃ r, gangwaylaw08_spoil.l0 k a (i : Int) = some r := by
  induction d with
  | zero =>
    intro k i a ha h1 h2
    obtain ⟨k, rfl⟩ : ∃ m, k = m + 1 := ⟨k - 1, by omega⟩
    simp only [gangwaylaw08_spoil.l0]
    rw [if_neg (by omega)]
    exact ⟨_, rfl⟩
  | succ d ih =>
    intro k i a ha h1 h2
    obtain ⟨k, rfl⟩ : ∃ m, k = m + 1 := ⟨k - 1, by omega⟩
    simp only [gangwaylaw08_spoil.l0]
    rw [if_pos (by omega), if_pos (by omega), wrap64_id (by omega) (by omega), show (i : Int) + 1 = ((i + 1 : Nat) : Int) from by omega]
    exact ih k (i + 1) _ (by rw [List.length_set]; exact ha) (by rw [List.length_set]; omega) (by omega)
theorem names_l0 (l : List ByteArray) (b at_ : List Int) (e : Int) (hl : l.length ≤ 1048576) (hm : ∀ s ∈ l, s.size ≤ 1048576) (hS : symtab_Strings.f l = some (b, at_, e)) (hb : b.length ≤ 1048576) (d : Nat) : ∀ k i, i + d = l.length → d + 1048580 ≤ k →
    gangwaylaw08_SymtabNames.l0 k l l b b (i : Int) = some true := by
  induction d with
  | zero =>
    intro k i h1 h2
    obtain ⟨k, rfl⟩ : ∃ m, k = m + 1 := ⟨k - 1, by omega⟩
    simp only [gangwaylaw08_SymtabNames.l0]
    obtain ⟨r, hr⟩ := spoil_l0 b.length k 0 b (by omega) (by omega) (by omega)
    rw [if_neg (by omega)]
    unfold gangwaylaw08_spoil.f
    rw [show ((0 : Nat) : Int) = 0 from rfl] at hr
    rw [hr, Option.bind_some, hS, Option.bind_some, if_pos rfl, live_true]
    rfl
  | succ d ih =>
    intro k i h1 h2
    obtain ⟨k, rfl⟩ : ∃ m, k = m + 1 := ⟨k - 1, by omega⟩
    have hlt : i < l.length := by omega
    have hs := hm _ (List.getElem_mem hlt)
    simp only [gangwaylaw08_SymtabNames.l0]
    rw [if_pos (by omega), if_pos (by omega), if_pos (by omega), if_pos trivial, rdOf_get l i hlt, rhash_f _ (by omega) k (by omega), rgnu_f _ (by omega) k (by omega)]
    unfold symtab_Hash.f symtab_Gnu.f
    rw [if_pos (by omega), if_pos (by omega)]
    simp only [Option.bind_some]
    rw [if_pos trivial, if_pos trivial, wrap64_id (by omega) (by omega), show (i : Int) + 1 = ((i + 1 : Nat) : Int) from by omega]
    exact ih k (i + 1) (by omega) (by omega)
theorem size_le_sum (l : List ByteArray) (s : ByteArray) (hs : s ∈ l) : s.size ≤ (l.map ByteArray.size).sum := by
  induction l with
  | nil => simp at hs
  | cons x xs ih =>
    rw [List.map_cons, List.sum_cons]
    rcases List.mem_cons.1 hs with rfl | h
    · omega
    · have := ih h
      omega
theorem SymtabNames : Stmt.SymtabNames := by
  intro l0 l1 a2 h0 h1 h2 hb
  have hsum : (l0.map (fun y => (y.size + 1))).sum = (l0.map ByteArray.size).sum + l0.length := by
    clear h0 hb
    induction l0 with
    | nil => rfl
    | cons x xs ih => simp only [List.map_cons, List.sum_cons, List.length_cons, ih]; omega
  rw [hsum] at hb
  have hm : ∀ s ∈ l0, s.size ≤ 1048576 := by
    intro s hs
    have : s.size ≤ (l0.map ByteArray.size).sum := size_le_sum l0 s hs
    omega
  have key : ∃ b a e, symtab_Strings.f l0 = some (b, a, e) ∧ b.length ≤ 1048576 ∧ a.length ≤ 1048576 := by
    rcases strings_table l0 (by omega) (by omega) with h | h | ⟨b, a, h, ht⟩
    · exact ⟨_, _, _, h, by simp, by simp⟩
    · exact ⟨_, _, _, h, by simp, by simp⟩
    · exact ⟨_, _, _, h, ht.small, by rw [ht.len]; omega⟩
  obtain ⟨b, a, e, hS, hbl, hal⟩ := key
  obtain ⟨k, hk⟩ : ∃ k, k = 3 * l0.length + l1.length + 1048600 := ⟨_, rfl⟩
  refine ⟨k + 1, ?_⟩
  unfold gangwaylaw08_SymtabNames.f
  simp only [Option.bind_some, List.nil_append, List.length_nil]
  rw [if_pos (by omega), rstr_f l0 (by omega) hm (by omega) _ (by omega), hS, at_f l1 a2 (by omega) _ (by omega), rat_f l1 a2 (by omega) _ (by omega)]
  simp only [Option.bind_some, gangwaylaw08_num.f]
  rw [if_pos trivial, ints_f a (by omega) _ (by omega), Option.bind_some, if_pos rfl, if_pos trivial, if_pos trivial, show ((atOf l1 a2).2 != (atOf l1 a2).2) = false from by simp]
  simp only [gangwaylaw08_SymtabNames.j0]
  rw [if_neg (by decide)]
  exact names_l0 l0 b a e (by omega) hm hS hbl l0.length k 0 (by omega) (by omega)
end Go.Proofs.Ytejdnanhnkjaoaa.Pure
