/- What cfa.Write writes, as plain lists. -/
import Derived.Test.YtngddlihppomhaaLebNumP
import Derived.Test.YtngddlihppomhaaCfaRun
import Derived.Test.YtngddlihppomhaaGfM
import Derived.Test.YtngddlihppomhaaGf20
namespace Go.Proofs.Ytngddlihppomhaa.CfaBP
set_option linter.unusedVariables false
set_option linter.unusedSimpArgs false
open Go.RowKit Go.Proofs.Ytngddlihppomhaa.G Go.Proofs.YtngddlihppomhaaW.PrintWords Go.Proofs.YtngddlihppomhaaW.PrintLast Go.Proofs.YtngddlihppomhaaW.PrintMore Go.Proofs.Ytngddlihppomhaa.Bit Go.Proofs.Ytngddlihppomhaa.Leb Go.Proofs.Ytngddlihppomhaa.Cfa
def conv (l : List S41) : List S40 := l.map fun o => ⟨o.f0, o.f1, o.f2⟩
theorem conv_length (l : List S41) : (conv l).length = l.length := by simp [conv]
theorem ops_l0 (l : List S41) (hl : l.length < 5864062014805) (d : Nat) : ∀ (k n : Nat), n ≤ l.length → l.length - n = d → d < k → gangwaylaw13_Ops.l0 k l (conv (l.take n)) (n : Int) = some (conv l) := by
  induction d with
  | zero =>
    intro k n h1 h2 h3
    obtain ⟨k, rfl⟩ : ∃ m, k = m + 1 := ⟨k - 1, by omega⟩
    simp only [gangwaylaw13_Ops.l0]
    rw [if_neg (by omega), List.take_of_length_le (by omega)]
  | succ d ih =>
    intro k n h1 h2 h3
    obtain ⟨k, rfl⟩ : ∃ m, k = m + 1 := ⟨k - 1, by omega⟩
    simp only [gangwaylaw13_Ops.l0]
    have hlen : (conv (l.take n)).length = n := by rw [conv_length, List.length_take]; omega
    rw [if_pos (by omega), if_pos (by omega), if_pos (by omega)]
    have hw : wrap64 ((n : Int) + 1) = ((n + 1 : Nat) : Int) := by unfold wrap64; omega
    have hrd : rd_T41 l (n : Int) = l[n] := by simp [rd_T41, List.getD, show n < l.length by omega]
    have htk : conv (l.take n) ++ [(⟨(rd_T41 l n).f0, (rd_T41 l n).f1, (rd_T41 l n).f2⟩ : S40)] = conv (l.take (n + 1)) := by
      rw [List.take_succ_eq_append_getElem (by omega), hrd]
      unfold conv
      rw [List.map_append]
      rfl
    rw [hw, htk]
    exact ih k (n + 1) (by omega) (by omega) (by omega)
theorem uL_le (d : Nat) : ∀ u : Nat, u < 128 ^ (d + 1) → (ulebL u).length ≤ d + 1 := by
  induction d with
  | zero =>
    intro u h
    rw [ulebL_small (by simp at h; omega)]
    simp
  | succ d ih =>
    intro u h
    by_cases c : 127 < u
    · rw [ulebL_big c]
      have := ih (u / 128) (by rw [Nat.pow_succ] at h; omega)
      simp
      omega
    · rw [ulebL_small c]
      simp
theorem sL_le (d : Nat) : ∀ n : Int, -(64 * 128 ^ d : Int) ≤ n → n < 64 * 128 ^ d → (slebL n).length ≤ d + 1 := by
  induction d with
  | zero =>
    intro n h0 h1
    rw [slebL_small (by simp at h0 h1; omega)]
    simp
  | succ d ih =>
    intro n h0 h1
    by_cases c : n < -64 ∨ 63 < n
    · rw [slebL_big c]
      rw [Int.pow_succ] at h0 h1
      have := ih (n / 128) (by omega) (by omega)
      simp
      omega
    · rw [slebL_small c]
      simp
def U (a : Int) : List Int := ulebL (a % 18446744073709551616).toNat
theorem U_le (a : Int) : (U a).length ≤ 10 := uL_le 9 _ (by
  have : (128 : Nat) ^ (9 + 1) = 1180591620717411303424 := by decide
  omega)
theorem S_le {a : Int} (h0 : -9223372036854775808 ≤ a) (h1 : a ≤ 9223372036854775807) : (slebL a).length ≤ 10 := sL_le 9 a (by
  have : (128 : Int) ^ 9 = 9223372036854775808 := by decide
  omega) (by
  have : (128 : Int) ^ 9 = 9223372036854775808 := by decide
  omega)
theorem U_f (a : Int) (k : Nat) (hk : 10 ≤ k) : leb_Uleb.f k a = some (U a) := uleb_f a k hk
/-- how far: an advance's bytes -/
def advB (n : Int) : List Int := if n < 64 then [(64 + n) % 256] else if n < 256 then [2, n % 256] else if n < 65536 then [3, n % 256, (n / 256) % 256] else [4, n % 256, (n / 256) % 256, (n / 65536) % 256, (n / 16777216) % 256]
/-- an op's bytes -/
def opB (k r n : Int) : List Int :=
  if k = 1 then advB n
  else if k = 2 then [12] ++ U r ++ U n
  else if k = 4 then [13] ++ U r
  else if k = 3 then [14] ++ U n
  else if k = 5 then (if n ≤ 0 then [(128 + r) % 256] ++ U (-(n / 8)) else [17] ++ U r ++ slebL (-(n / 8)))
  else if k = 6 then [(192 + r) % 256]
  else if k = 7 then [7] ++ U r
  else if k = 8 then [8] ++ U r
  else if k = 9 then [10]
  else if k = 10 then [11]
  else [0]
/-- what an Offset may be -/
theorem may5 {r n : Int} (h : mayF 5 r n = true) : ∃ m : Int, n = 8 * m ∧ 0 ≤ r ∧ r ≤ 16 ∧ -268435456 ≤ m ∧ m ≤ 268435455 := by
  have h' : (decide (n.tmod 8 = 0) && (decide (0 ≤ r) && (decide (r ≤ 16) && (decide (-2147483648 ≤ n) && decide (n ≤ 2147483640))))) = true := h
  simp only [Bool.and_eq_true, decide_eq_true_eq] at h'
  obtain ⟨h0, h1, h2, h3, h4⟩ := h'
  obtain ⟨m, rfl⟩ := Int.dvd_of_tmod_eq_zero h0
  exact ⟨m, rfl, h1, h2, by omega, by omega⟩
theorem may1 {r n : Int} (h : mayF 1 r n = true) : 0 ≤ n ∧ n ≤ 2147483647 := by
  have h' : (decide (r = 0) && (decide (0 ≤ n) && decide (n ≤ 2147483647))) = true := h
  simp only [Bool.and_eq_true, decide_eq_true_eq] at h'
  exact h'.2
theorem may6 {r n : Int} (h : mayF 6 r n = true) : 0 ≤ r ∧ r ≤ 16 := by
  have h' : (decide (n = 0) && (decide (0 ≤ r) && decide (r ≤ 16))) = true := h
  simp only [Bool.and_eq_true, decide_eq_true_eq] at h'
  exact h'.2
theorem advB_le (n : Int) : (advB n).length ≤ 30 := by
  unfold advB
  by_cases d1 : n < 64
  · rw [if_pos d1]; simp
  · rw [if_neg d1]
    by_cases d2 : n < 256
    · rw [if_pos d2]; simp
    · rw [if_neg d2]
      by_cases d3 : n < 65536
      · rw [if_pos d3]; simp
      · rw [if_neg d3]; simp
theorem opB_le {k r n : Int} (h : mayF k r n = true) : (opB k r n).length ≤ 30 := by
  have hr := U_le r
  have hn := U_le n
  unfold opB
  by_cases c1 : k = 1
  · rw [if_pos c1]; exact advB_le n
  rw [if_neg c1]
  by_cases c2 : k = 2
  · rw [if_pos c2]; simp; omega
  rw [if_neg c2]
  by_cases c4 : k = 4
  · rw [if_pos c4]; simp; omega
  rw [if_neg c4]
  by_cases c3 : k = 3
  · rw [if_pos c3]; simp; omega
  rw [if_neg c3]
  by_cases c5 : k = 5
  · rw [if_pos c5]
    subst c5
    obtain ⟨m, rfl, h1, h2, h3, h4⟩ := may5 h
    have e : 8 * m / 8 = m := Int.mul_ediv_cancel_left m (by decide)
    rw [e]
    have hm := U_le (-m)
    have hs := S_le (a := -m) (by omega) (by omega)
    by_cases d : 8 * m ≤ 0
    · rw [if_pos d]; simp; omega
    · rw [if_neg d]; simp; omega
  rw [if_neg c5]
  by_cases c6 : k = 6
  · rw [if_pos c6]; simp
  rw [if_neg c6]
  by_cases c7 : k = 7
  · rw [if_pos c7]; simp; omega
  rw [if_neg c7]
  by_cases c8 : k = 8
  · rw [if_pos c8]; simp; omega
  rw [if_neg c8]
  by_cases c9 : k = 9
  · rw [if_pos c9]; simp
  rw [if_neg c9]
  by_cases c10 : k = 10
  · rw [if_pos c10]; simp
  rw [if_neg c10]
  simp
theorem put1 (k : Nat) (hk : 2 ≤ k) (a x : List Int) (ha : a.length ≤ 1000) (hx : x.length ≤ 1000) : cfa_put.f k a [x] = some (a ++ x) := by
  obtain ⟨k, rfl⟩ : ∃ m, k = m + 1 + 1 := ⟨k - 2, by omega⟩
  show cfa_put.l0 (k + 1 + 1) a [x] 1 0 = _
  have e0 : rd_L4 [x] 0 = x := rfl
  rw [cfa_put.l0, if_pos (by omega), if_pos (by omega), if_pos (by simp), e0, if_pos (by omega), show wrap64 (0 + 1) = 1 from by unfold wrap64; omega, cfa_put.l0, if_neg (by omega)]
theorem put2 (k : Nat) (hk : 3 ≤ k) (a x y : List Int) (ha : a.length ≤ 1000) (hx : x.length ≤ 1000) (hy : y.length ≤ 1000) : cfa_put.f k a [x, y] = some (a ++ x ++ y) := by
  obtain ⟨k, rfl⟩ : ∃ m, k = m + 1 + 1 + 1 := ⟨k - 3, by omega⟩
  show cfa_put.l0 (k + 1 + 1 + 1) a [x, y] 2 0 = _
  have e0 : rd_L4 [x, y] 0 = x := rfl
  have e1 : rd_L4 [x, y] 1 = y := rfl
  rw [cfa_put.l0, if_pos (by omega), if_pos (by omega), if_pos (by simp), e0, if_pos (by omega), show wrap64 (0 + 1) = 1 from by unfold wrap64; omega, cfa_put.l0, if_pos (by omega), if_pos (by omega), if_pos (by simp), e1, if_pos (by rw [List.length_append]; omega), show wrap64 (1 + 1) = 2 from by unfold wrap64; omega, cfa_put.l0, if_neg (by omega)]
theorem bytes_f {k r n : Int} (h : mayF k r n = true) (kk : Nat) (hk : 12 ≤ kk) : cfa_Op_bytes.f kk k r n = some (opB k r n) := by
  have hr := U_le r
  have hn := U_le n
  unfold cfa_Op_bytes.f opB
  by_cases c1 : k = 1
  · rw [if_pos c1, if_pos c1]
    unfold advB
    by_cases d1 : n < 64
    · rw [if_pos d1, if_pos d1]
    · rw [if_neg d1, if_neg d1]
      by_cases d2 : n < 256
      · rw [if_pos d2, if_pos d2]
      · rw [if_neg d2, if_neg d2]
        by_cases d3 : n < 65536
        · rw [if_pos d3, if_pos d3]
        · rw [if_neg d3, if_neg d3]
  rw [if_neg c1, if_neg c1]
  by_cases c2 : k = 2
  · rw [if_pos c2, if_pos c2, U_f r kk (by omega), Option.bind_some, U_f n kk (by omega), Option.bind_some, put2 kk (by omega) _ _ _ (by simp) (by omega) (by omega), Option.bind_some]
  rw [if_neg c2, if_neg c2]
  by_cases c4 : k = 4
  · rw [if_pos c4, if_pos c4, U_f r kk (by omega), Option.bind_some, put1 kk (by omega) _ _ (by simp) (by omega), Option.bind_some]
  rw [if_neg c4, if_neg c4]
  by_cases c3 : k = 3
  · rw [if_pos c3, if_pos c3, U_f n kk (by omega), Option.bind_some, put1 kk (by omega) _ _ (by simp) (by omega), Option.bind_some]
  rw [if_neg c3, if_neg c3]
  by_cases c5 : k = 5
  · rw [if_pos c5, if_pos c5]
    subst c5
    obtain ⟨m, rfl, h1, h2, h3, h4⟩ := may5 h
    have e : 8 * m / 8 = m := Int.mul_ediv_cancel_left m (by decide)
    have e2 : wrap64 (Int.tdiv (wrap64 (-(8 * m))) 8) = -m := by
      rw [wrap64_id (n := -(8 * m)) (by omega) (by omega), show -(8 * m) = 8 * (-m) from by omega, Int.mul_tdiv_cancel_left (-m) (show (8 : Int) ≠ 0 by decide), wrap64_id (by omega) (by omega)]
    rw [e, e2]
    have hm := U_le (-m)
    have hs := S_le (a := -m) (by omega) (by omega)
    by_cases d : 8 * m ≤ 0
    · rw [if_pos d, if_pos d, U_f _ kk (by omega), Option.bind_some, put1 kk (by omega) _ _ (by simp) (by omega), Option.bind_some]
    · rw [if_neg d, if_neg d, U_f _ kk (by omega), Option.bind_some, sleb_f _ (by omega) (by omega) kk (by omega), Option.bind_some, put2 kk (by omega) _ _ _ (by simp) (by omega) (by omega), Option.bind_some]
  rw [if_neg c5, if_neg c5]
  by_cases c6 : k = 6
  · rw [if_pos c6, if_pos c6]
  rw [if_neg c6, if_neg c6]
  by_cases c7 : k = 7
  · rw [if_pos c7, if_pos c7, U_f r kk (by omega), Option.bind_some, put1 kk (by omega) _ _ (by simp) (by omega), Option.bind_some]
  rw [if_neg c7, if_neg c7]
  by_cases c8 : k = 8
  · rw [if_pos c8, if_pos c8, U_f r kk (by omega), Option.bind_some, put1 kk (by omega) _ _ (by simp) (by omega), Option.bind_some]
  rw [if_neg c8, if_neg c8]
  by_cases c9 : k = 9
  · rw [if_pos c9, if_pos c9]
  rw [if_neg c9, if_neg c9]
  by_cases c10 : k = 10
  · rw [if_pos c10, if_pos c10]
  rw [if_neg c10, if_neg c10]
def leB (u : Int) : Nat → List Int
  | 0 => []
  | s + 1 => u % 256 :: leB (u / 256) s
/-- what Write writes -/
def outB : List (Int × Int × Int) → List Int → List Int × Int
  | [], acc => (acc, 0)
  | (k, r, n) :: t, acc => if mayF k r n = true then outB t (acc ++ opB k r n) else ([], 130)
theorem opl_at (l : List S40) (i : Nat) (h : i < l.length) : opl (l.drop i) = ((rd_T40 l (i : Int)).f0, (rd_T40 l (i : Int)).f1, (rd_T40 l (i : Int)).f2) :: opl (l.drop (i + 1)) := by
  have hrd : rd_T40 l (i : Int) = l[i] := by simp [rd_T40, List.getD, h]
  rw [hrd, List.drop_eq_getElem_cons h]
  rfl
theorem conv_at (l : List S41) (i : Nat) (h : i < l.length) : opl (conv (l.drop i)) = ((rd_T41 l (i : Int)).f0, (rd_T41 l (i : Int)).f1, (rd_T41 l (i : Int)).f2) :: opl (conv (l.drop (i + 1))) := by
  have hrd : rd_T41 l (i : Int) = l[i] := by simp [rd_T41, List.getD, h]
  rw [hrd, List.drop_eq_getElem_cons h]
  rfl
theorem write_l0 (l : List S40) (hl : l.length ≤ 4000) (d : Nat) : ∀ (kk i : Nat) (acc : List Int), i + d = l.length → d + 20 ≤ kk → acc.length ≤ 30 * i → cfa_Write.l0 kk acc l (l.length : Int) (i : Int) = some (outB (opl (l.drop i)) acc) := by
  induction d with
  | zero =>
    intro kk i acc h hk ha
    obtain ⟨kk, rfl⟩ : ∃ m, kk = m + 1 := ⟨kk - 1, by omega⟩
    rw [cfa_Write.l0, if_neg (by omega), List.drop_of_length_le (by omega)]
    rfl
  | succ d ih =>
    intro kk i acc h hk ha
    obtain ⟨kk, rfl⟩ : ∃ m, kk = m + 1 := ⟨kk - 1, by omega⟩
    rw [cfa_Write.l0, if_pos (by omega), if_pos (by omega), if_pos (by omega), opl_at l i (by omega)]
    generalize rd_T40 l (i : Int) = x
    unfold cfa_Op_may.f outB
    rw [Option.bind_some]
    by_cases c : mayF x.f0 x.f1 x.f2 = true
    · have hle := opB_le c
      rw [if_pos c, if_pos c, bytes_f c kk (by omega), Option.bind_some, if_pos (by omega), wrap64_id (by omega) (by omega), show (i : Int) + 1 = ((i + 1 : Nat) : Int) from by omega, ih kk (i + 1) _ (by omega) (by omega) (by rw [List.length_append]; omega)]
    · rw [if_neg c, if_neg c]
/-- what Write answers -/
def writeV (l : List (Int × Int × Int)) : List Int × Int := if l.length > 4000 then ([], 6) else outB l []
theorem write_f (l : List S40) (kk : Nat) (hk : l.length + 20 ≤ kk) : cfa_Write.f kk l = some (writeV (opl l)) := by
  unfold cfa_Write.f writeV
  rw [opl_length]
  by_cases c : l.length > 4000
  · rw [if_pos c, if_pos (by omega)]
  · rw [if_neg c, if_neg (by omega)]
    exact write_l0 l (by omega) l.length kk 0 [] (by omega) (by omega) (by simp)
theorem same_l0 (l : List S41) (hl : l.length ≤ 9223372036854775807) (d : Nat) : ∀ (kk i : Nat), i + d = l.length → d < kk → gangwaylaw13_same.l0 kk (conv l) l (i : Int) = some true := by
  induction d with
  | zero =>
    intro kk i h hk
    obtain ⟨kk, rfl⟩ : ∃ m, kk = m + 1 := ⟨kk - 1, by omega⟩
    rw [gangwaylaw13_same.l0, conv_length, if_neg (by omega)]
  | succ d ih =>
    intro kk i h hk
    obtain ⟨kk, rfl⟩ : ∃ m, kk = m + 1 := ⟨kk - 1, by omega⟩
    have hi : i < l.length := by omega
    have h1 : rd_T41 l (i : Int) = l[i] := by simp [rd_T41, List.getD, hi]
    have h2 : rd_T40 (conv l) (i : Int) = ⟨l[i].f0, l[i].f1, l[i].f2⟩ := by simp [rd_T40, List.getD, conv, hi]
    rw [gangwaylaw13_same.l0, conv_length, if_pos (by omega), if_pos (by omega), if_pos (by omega), h1, h2, if_pos rfl, if_pos rfl, if_pos rfl, wrap64_id (by omega) (by omega), show (i : Int) + 1 = ((i + 1 : Nat) : Int) from by omega, ih kk (i + 1) (by omega) (by omega)]
theorem same_f (l : List S41) (hl : l.length ≤ 9223372036854775807) (kk : Nat) (hk : l.length < kk) : gangwaylaw13_same.f kk (conv l) l = some true := by
  unfold gangwaylaw13_same.f
  rw [conv_length, if_pos rfl]
  exact same_l0 l hl l.length kk 0 (by omega) hk
end Go.Proofs.Ytngddlihppomhaa.CfaBP
