/- The plain law of LebPuts: the program's Put and Get answer as the reference's, for every number, size, bytes and place. -/
import Derived.Test.YtjcabmopajhggaaStmtLebPuts
import Derived.Test.YtjcabmopajhggaaLebFix
import Derived.Test.YtjcabmopajhggaaKnows
namespace Go.Proofs.Ytjcabmopajhggaa.Pure
set_option linter.unusedVariables false
set_option linter.unusedSimpArgs false
open Go.RowKit Go.Proofs.Ytjcabmopajhggaa.G Go.Proofs.Ytjcabmopajhggaa.Stmt Go.Proofs.YtjcabmopajhggaaW.PrintWords Go.Proofs.YtjcabmopajhggaaW.PrintLast Go.Proofs.YtjcabmopajhggaaW.PrintMore Go.Proofs.Ytjcabmopajhggaa.Bit Go.Proofs.Ytjcabmopajhggaa.Leb

theorem rsized_f (s : Int) : gangwayref01_sized.f s = some (sizedB s) := sized_f s
theorem rput_l0 (d : Nat) : ∀ (k : Nat) (u : Int) (s i : Nat) (acc : List Int), i + d = s → d < k → s ≤ 8 → acc.length + d ≤ 100 → gangwayref01_Put.l0 k (s : Int) u acc (i : Int) = some (acc ++ leB u d, 0) := by
  induction d with
  | zero =>
    intro k u s i acc h hk hs ha
    obtain ⟨k, rfl⟩ : ∃ m, k = m + 1 := ⟨k - 1, by omega⟩
    simp only [gangwayref01_Put.l0]
    rw [if_neg (by omega)]
    simp [leB]
  | succ d ih =>
    intro k u s i acc h hk hs ha
    obtain ⟨k, rfl⟩ : ∃ m, k = m + 1 := ⟨k - 1, by omega⟩
    simp only [gangwayref01_Put.l0]
    rw [if_pos (by omega), if_pos (by omega), wrap64_id (by omega) (by omega), show (i : Int) + 1 = ((i + 1 : Nat) : Int) from by omega, ih k (u / 256) s (i + 1) _ (by omega) (by omega) hs (by simp; omega)]
    simp [leB]
theorem rput_go (n : Int) (s : Nat) (hs : s ≤ 8) (k : Nat) (hk : 20 ≤ k) : gangwayref01_Put.l0 k (s : Int) (IntKind.u64.wrap n) [] 0 = some (leB (n % 18446744073709551616) s, 0) := by
  have := rput_l0 s k (IntKind.u64.wrap n) s 0 [] (by omega) (by omega) hs (by simp; omega)
  rw [wrap_u64] at this ⊢
  simpa using this
theorem rput_f (n s : Int) : gangwayref01_Put.f 30 n s = some (putV n s) := by
  unfold gangwayref01_Put.f putV
  rw [rsized_f, Option.bind_some]
  by_cases hs : sizedB s = true
  · rw [if_pos hs, if_pos hs]
    rcases sizedB_cases hs with rfl | rfl | rfl | rfl
    · have e1 : wrap64 (-(shl .i64 1 (IntKind.u64.wrap (wrap64 (wrap64 (8 * 1) - 1))))) = -128 := by decide +kernel
      have e2 : shl .i64 1 (IntKind.u64.wrap (wrap64 (8 * 1))) = 256 := by decide +kernel
      rw [e1, e2, if_pos (show (1 : Int) < 8 by omega), if_pos (show 0 ≤ IntKind.u64.wrap (wrap64 (wrap64 (8 * 1) - 1)) by decide +kernel), if_pos (show 0 ≤ IntKind.u64.wrap (wrap64 (8 * 1)) by decide +kernel)]
      simp only [gangwayref01_Put.j0]
      by_cases c1 : n < -128
      · rw [if_pos c1, if_pos trivial, if_pos (by simp; omega)]
      · rw [if_neg c1]
        by_cases c2 : n ≥ 256
        · rw [if_pos (decide_eq_true c2), if_pos (by simp; omega)]
        · rw [if_neg (by simpa using c2), if_neg (by simp; omega)]
          exact rput_go n 1 (by omega) 29 (by omega)
    · have e1 : wrap64 (-(shl .i64 1 (IntKind.u64.wrap (wrap64 (wrap64 (8 * 2) - 1))))) = -32768 := by decide +kernel
      have e2 : shl .i64 1 (IntKind.u64.wrap (wrap64 (8 * 2))) = 65536 := by decide +kernel
      rw [e1, e2, if_pos (show (2 : Int) < 8 by omega), if_pos (show 0 ≤ IntKind.u64.wrap (wrap64 (wrap64 (8 * 2) - 1)) by decide +kernel), if_pos (show 0 ≤ IntKind.u64.wrap (wrap64 (8 * 2)) by decide +kernel)]
      simp only [gangwayref01_Put.j0]
      by_cases c1 : n < -32768
      · rw [if_pos c1, if_pos trivial, if_pos (by simp; omega)]
      · rw [if_neg c1]
        by_cases c2 : n ≥ 65536
        · rw [if_pos (decide_eq_true c2), if_pos (by simp; omega)]
        · rw [if_neg (by simpa using c2), if_neg (by simp; omega)]
          exact rput_go n 2 (by omega) 29 (by omega)
    · have e1 : wrap64 (-(shl .i64 1 (IntKind.u64.wrap (wrap64 (wrap64 (8 * 4) - 1))))) = -2147483648 := by decide +kernel
      have e2 : shl .i64 1 (IntKind.u64.wrap (wrap64 (8 * 4))) = 4294967296 := by decide +kernel
      rw [e1, e2, if_pos (show (4 : Int) < 8 by omega), if_pos (show 0 ≤ IntKind.u64.wrap (wrap64 (wrap64 (8 * 4) - 1)) by decide +kernel), if_pos (show 0 ≤ IntKind.u64.wrap (wrap64 (8 * 4)) by decide +kernel)]
      simp only [gangwayref01_Put.j0]
      by_cases c1 : n < -2147483648
      · rw [if_pos c1, if_pos trivial, if_pos (by simp; omega)]
      · rw [if_neg c1]
        by_cases c2 : n ≥ 4294967296
        · rw [if_pos (decide_eq_true c2), if_pos (by simp; omega)]
        · rw [if_neg (by simpa using c2), if_neg (by simp; omega)]
          exact rput_go n 4 (by omega) 29 (by omega)
    · rw [if_neg (show ¬ (8 : Int) < 8 by omega), if_neg (by simp)]
      simp only [gangwayref01_Put.j0, Bool.false_eq_true, if_false]
      exact rput_go n 8 (by omega) 29 (by omega)
  · rw [if_neg hs, if_neg hs]
theorem rget_l0 (l : List Int) (a : Int) (s : Nat) (sg : Bool) (hl : ∀ b ∈ l, 0 ≤ b ∧ b ≤ 255) (hs : s ≤ 8) (ha : 0 ≤ a) (hal : a + s ≤ l.length) (hm : l.length ≤ 9223372036854775807) (i : Nat) :
    ∀ (k : Nat) (u : Int), i ≤ s → i < k → u = leN ((l.drop (a.toNat + i)).take (s - i)) →
      gangwayref01_Get.l0 k l a s sg u ((i : Int) - 1) = gangwayref01_Get.l0 (k - i) l a s sg (leN ((l.drop a.toNat).take s)) (-1) := by
  induction i with
  | zero =>
    intro k u hi hk hu
    rw [hu]
    simp
  | succ i ih =>
    intro k u hi hk hu
    obtain ⟨k, rfl⟩ : ∃ m, k = m + 1 := ⟨k - 1, by omega⟩
    have hil : a.toNat + i < l.length := by omega
    have hb := hl _ (List.getElem_mem hil)
    have hrd : rd l (wrap64 (a + (i : Int))) = l[a.toNat + i] := by
      rw [wrap64_id (by omega) (by omega)]
      simp [rd, List.getD, show (a + (i : Int)).toNat = a.toNat + i from by omega, hil]
    have hr := leN_range ((l.drop (a.toNat + (i + 1))).take (s - (i + 1))) (fun b hb => hl b (List.mem_of_mem_drop (List.mem_of_mem_take hb)))
    have hlen : ((l.drop (a.toNat + (i + 1))).take (s - (i + 1))).length = s - (i + 1) := by rw [List.length_take, List.length_drop]; omega
    rw [hlen, ← hu] at hr
    have hp7 : (256 : Int) ^ (s - (i + 1)) ≤ 72057594037927936 := by
      have h2 : ((256 ^ (s - (i + 1)) : Nat) : Int) ≤ ((256 ^ 7 : Nat) : Int) := Int.ofNat_le.mpr (Nat.pow_le_pow_right (n := 256) (by decide) (show s - (i + 1) ≤ 7 by omega))
      rw [Int.natCast_pow, Int.natCast_pow] at h2
      exact h2
    have hor : Go.bits .or .u64 (IntKind.u64.wrap (u * 256)) (IntKind.u64.wrap l[a.toNat + i]) = l[a.toNat + i] + 256 * u := by
      rw [wrap_u64, wrap_u64, Int.emod_eq_of_lt (by omega) (by omega), Int.emod_eq_of_lt hb.1 (by omega), Bit.or_comm]
      have := u64_join l[a.toNat + i] (u * 256) 8 hb.1 (by omega) (by omega) (by omega) (by omega) (by omega)
      omega
    rw [gangwayref01_Get.l0, show ((i + 1 : Nat) : Int) - 1 = (i : Int) from by omega]
    rw [if_pos (show (i : Int) ≥ 0 by omega), hrd, hor, wrap64_id (n := a + (i : Int)) (by omega) (by omega), if_pos (show 0 ≤ a + (i : Int) by omega), if_pos (show a + (i : Int) < l.length by omega), wrap64_id (n := (i : Int) - 1) (by omega) (by omega)]
    rw [ih k _ (by omega) (by omega) ?_, show k + 1 - (i + 1) = k - i from by omega]
    have e : ((l.drop (a.toNat + i)).take (s - i)) = l[a.toNat + i] :: ((l.drop (a.toNat + (i + 1))).take (s - (i + 1))) := by
      rw [List.drop_eq_getElem_cons hil, show s - i = (s - (i + 1)) + 1 from by omega, List.take_succ_cons]
      rfl
    rw [e]
    simp only [leN]
    rw [hu]
theorem rget_end (l : List Int) (a : Int) (s : Nat) (sg : Bool) (hs : s = 1 ∨ s = 2 ∨ s = 4 ∨ s = 8) (u : Int) (h0 : 0 ≤ u) (h1 : u < 256 ^ s) (k : Nat) : gangwayref01_Get.l0 (k + 1) l a s sg u (-1) = some (sgnV u s sg, 0) := by
  rw [gangwayref01_Get.l0]
  rw [if_neg (by omega)]
  unfold sgnV
  cases sg with
  | false => simp
  | true =>
    rw [if_pos rfl, if_pos rfl]
    rcases hs with rfl | rfl | rfl | rfl
    · have h1' : u < 256 := by simpa using h1
      have e1 : shl .i64 1 (IntKind.u64.wrap (wrap64 (wrap64 (8 * ((1 : Nat) : Int)) - 1))) = 128 := by decide +kernel
      have e2 : shl .i64 1 (IntKind.u64.wrap (wrap64 (8 * ((1 : Nat) : Int)))) = 256 := by decide +kernel
      rw [if_pos (by decide), if_pos (show 0 ≤ IntKind.u64.wrap (wrap64 (wrap64 (8 * ((1 : Nat) : Int)) - 1)) by decide +kernel), e1, if_pos (show 0 ≤ IntKind.u64.wrap (wrap64 (8 * ((1 : Nat) : Int))) by decide +kernel), e2]
      simp only [wrap64_eq]
      simp
      split <;> split <;> first | (congr 2; omega) | omega
    · have h1' : u < 65536 := by simpa using h1
      have e1 : shl .i64 1 (IntKind.u64.wrap (wrap64 (wrap64 (8 * ((2 : Nat) : Int)) - 1))) = 32768 := by decide +kernel
      have e2 : shl .i64 1 (IntKind.u64.wrap (wrap64 (8 * ((2 : Nat) : Int)))) = 65536 := by decide +kernel
      rw [if_pos (by decide), if_pos (show 0 ≤ IntKind.u64.wrap (wrap64 (wrap64 (8 * ((2 : Nat) : Int)) - 1)) by decide +kernel), e1, if_pos (show 0 ≤ IntKind.u64.wrap (wrap64 (8 * ((2 : Nat) : Int))) by decide +kernel), e2]
      simp only [wrap64_eq]
      simp
      split <;> split <;> first | (congr 2; omega) | omega
    · have h1' : u < 4294967296 := by simpa using h1
      have e1 : shl .i64 1 (IntKind.u64.wrap (wrap64 (wrap64 (8 * ((4 : Nat) : Int)) - 1))) = 2147483648 := by decide +kernel
      have e2 : shl .i64 1 (IntKind.u64.wrap (wrap64 (8 * ((4 : Nat) : Int)))) = 4294967296 := by decide +kernel
      rw [if_pos (by decide), if_pos (show 0 ≤ IntKind.u64.wrap (wrap64 (wrap64 (8 * ((4 : Nat) : Int)) - 1)) by decide +kernel), e1, if_pos (show 0 ≤ IntKind.u64.wrap (wrap64 (8 * ((4 : Nat) : Int))) by decide +kernel), e2]
      simp only [wrap64_eq]
      simp
      split <;> split <;> first | (congr 2; omega) | omega
    · have h1' : u < 18446744073709551616 := by simpa using h1
      rw [if_neg (by decide)]
      simp only [wrap64_eq]
      simp
      split <;> omega
theorem rget_f (l : List Int) (a s : Int) (sg : Bool) (hl : ∀ b ∈ l, 0 ≤ b ∧ b ≤ 255) (hm : l.length ≤ 140737488351232) : gangwayref01_Get.f 30 l a s sg = some (getV l a s sg) := by
  unfold gangwayref01_Get.f getV
  rw [rsized_f, Option.bind_some]
  by_cases hs : sizedB s = true
  · rw [if_pos hs, if_pos hs]
    have hs' := sizedB_cases hs
    by_cases c1 : a < 0
    · rw [if_pos c1, if_pos (.inl c1)]
      simp [gangwayref01_Get.j0]
    · rw [if_neg c1]
      by_cases c2 : a > l.length
      · rw [if_pos c2, if_pos (.inr (by omega))]
        simp [gangwayref01_Get.j0]
      · rw [if_neg c2, wrap64_id (by omega) (by omega)]
        by_cases c3 : s > (l.length : Int) - a
        · rw [decide_eq_true c3, if_pos (.inr (by omega))]
          simp [gangwayref01_Get.j0]
        · rw [decide_eq_false c3, if_neg (by omega)]
          simp only [gangwayref01_Get.j0, Bool.false_eq_true, if_false]
          obtain ⟨m, rfl⟩ := Int.eq_ofNat_of_zero_le (show 0 ≤ s by omega)
          rw [wrap64_id (by omega) (by omega), rget_l0 l a m sg hl (by omega) (by omega) (by omega) (by omega) m 29 0 (by omega) (by omega) (by simp [leN]), Int.toNat_natCast]
          have hr := leN_range ((l.drop a.toNat).take m) (fun b hb => hl b (List.mem_of_mem_drop (List.mem_of_mem_take hb)))
          have hlen : ((l.drop a.toNat).take m).length = m := by rw [List.length_take, List.length_drop]; omega
          rw [hlen] at hr
          obtain ⟨j, hj⟩ : ∃ j, 29 - m = j + 1 := ⟨29 - m - 1, by omega⟩
          rw [hj]
          exact rget_end l a m sg (by omega) _ hr.1 hr.2 j
  · rw [if_neg hs, if_neg hs]
theorem LebPuts : Stmt.LebPuts := by
  intro a0 a1 l2 a3 a4 h0 h1 hl h3
  have hb : ∀ b ∈ l2, 0 ≤ b ∧ b ≤ 255 := fun b hb => wf_u8 (hl.2.2 b hb)
  refine ⟨30, ?_⟩
  unfold gangwaylaw01_LebPuts.f
  rw [put_f a0 a1 30 (by omega), get_f l2 a3 a1 a4 hb hl.2.1 30 (by omega), rput_f, rget_f l2 a3 a1 a4 hb (by omega), knows_k 30 (by omega)]
  simp only [Option.bind_some]
  rw [if_pos ⟨trivial, trivial, trivial, by omega⟩]
end Go.Proofs.Ytjcabmopajhggaa.Pure
