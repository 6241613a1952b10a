/- Each theorem here says what a call of one Go function returns, and what it leaves of the memory, for the arguments that its hypotheses name. Printed by a driver of this session over the kit's printer; what stands behind GIVENBYHAND is this session's own text. -/
import Derived.Test.YtjcabmopajhggaaG0
import Derived.Test.YtjcabmopajhggaaGf22
import Derived.Test.YtjcabmopajhggaaGf40
import Derived.Laws.EntriesVeiled
import Derived.Lib.Hide
namespace Go.Proofs.Ytjcabmopajhggaa.G
open Go.RowKit Go.Proofs.YtjcabmopajhggaaW.PrintWords Go.Proofs.YtjcabmopajhggaaW.PrintLast Go.Proofs.YtjcabmopajhggaaW.PrintMore
attribute [local go_sem] max2_int min2_int max_two min_two max_three min_three max_four min_four   -- for this text's walks alone
set_option linter.unusedVariables false
set_option linter.unusedSimpArgs false

/-! ### leb_ReadSleb: function 23 -/
-- GIVENBYHAND Derived.Laws.EntriesVeiled Derived.Lib.Hide
/-- a signed number's value of its groups' bits u (n groups) -/
def lebSx (u : Int) (n : Nat) : Int :=
  if 7 * n < 64 ∧ Go.bits .and .u64 (shr .u64 u (7 * (n : Int) - 1)) 1 = 1 then wrap64 (Go.bits .or .u64 u (shl .u64 18446744073709551615 (7 * (n : Int)))) else wrap64 u
def lebReadS (l0 : List Int) (a1 : Int) : Int × Int × Int :=
  match lebAt l0 a1 with
  | .inr er => (0, 0, er)
  | .inl n => if n < 10 ∨ rd (lebCut l0 a1 n) 9 = 0 ∨ rd (lebCut l0 a1 n) 9 = 127 then (lebSx (lebJn (lebCut l0 a1 n) 0 0) n, a1 + n, 0) else (0, 0, 21)
theorem lebS1_some (g : List Int) (n : Nat) (hn : 0 < n) (hn10 : n ≤ 10) (hlen : g.length = n) :
    leb_ReadSleb_1.f 1001 g = some (lebSx (lebJn g 0 0) n, decide (n < 10 ∨ rd g 9 = 0 ∨ rd g 9 = 127)) := by
  unfold leb_ReadSleb_1.f
  rw [lebJoined_some _ (by rw [hlen]; omega), Option.bind_some, hlen]
  have w7 : wrap64 (7 * (n : Int)) = 7 * (n : Int) := by unfold wrap64; omega
  have w71 : wrap64 (7 * (n : Int) - 1) = 7 * (n : Int) - 1 := by unfold wrap64; omega
  rw [w7, w71, if_pos (show 0 ≤ 7 * (n : Int) - 1 by omega), if_pos (show 0 ≤ 7 * (n : Int) by omega)]
  generalize lebJn g 0 0 = u
  by_cases c1 : 7 * n < 64
  · rw [if_pos (show 7 * (n : Int) < 64 by omega)]
    by_cases c2 : Go.bits .and .u64 (shr .u64 u (7 * (n : Int) - 1)) 1 = 1
    · have e : lebSx u n = wrap64 (Go.bits .or .u64 u (shl .u64 18446744073709551615 (7 * (n : Int)))) := if_pos ⟨c1, c2⟩
      rw [if_pos c2, if_pos (show (n : Int) < 10 by omega), e]
      simp [show n < 10 by omega]
    · have e : lebSx u n = wrap64 u := if_neg (fun h => c2 h.2)
      rw [if_neg c2, if_pos (show (n : Int) < 10 by omega), e]
      simp [show n < 10 by omega]
  · have e : lebSx u n = wrap64 u := if_neg (fun h => c1 h.1)
    rw [if_neg (show ¬ 7 * (n : Int) < 64 by omega), if_neg (show ¬ (n : Int) < 10 by omega), if_pos (show 9 < (n : Int) by omega), e]
    by_cases c3 : rd g 9 = 0
    · rw [if_pos c3]
      simp [c3]
    · rw [if_neg c3]
      simp [c3, show ¬ n < 10 by omega]
      rfl
set_option maxHeartbeats 1000000 in
theorem lebReadS_calls (A0 : Option Addr) (c0 : Nat) (l0 : List Int) (a1 : Int) (w : World) (hr0 : Kd.C (Kd.int .u8) w A0 l0.length l0) (hc0 : l0.length ≤ c0) :
    Calls Try.prog 41 #[.agg #[.func (.func 40) #[] #[]], .slice A0 l0.length c0, .int .i64 a1] w fun e w' =>
      e = .returned (.tuple #[.int .i64 (lebReadS l0 a1).1, .int .i64 (lebReadS l0 a1).2.1, .int .i64 (lebReadS l0 a1).2.2]) ∧ Below w.heap.size w w' := by
  have HR0 := Aside0.mk hr0
  have hb0 := Below.refl w.heap.size w
  cases hL : lebAt l0 a1 with
  | inr er =>
    have hf : lebReadS l0 a1 = (0, 0, er) := by unfold lebReadS; rw [hL]
    rw [hf]
    have her := lebAt_err hL
    have HL := Lib.hid hL
    clear hL hf hr0
    have hu := Try.underlying67
    rcases her with rfl | rfl
    all_goals
      go_enter Try.func41, Try.ntmps41
      go_wp2_with fail
      refine (lebGroups_calls A0 c0 l0 a1 _ (Kd.C_alloc HR0.out _) hc0).mono ?_
      rintro e w' ⟨hg, rfl⟩
      obtain rfl := lebGrpOut_err HL.out hg
      clear hg
      go_wp2
      go_ret3
      exact ⟨rfl, below_alloc hb0 _⟩
  | inl n =>
    obtain ⟨h0, hn, hn10, hln⟩ := lebAt_ok hL
    have hf : lebReadS l0 a1 = if n < 10 ∨ rd (lebCut l0 a1 n) 9 = 0 ∨ rd (lebCut l0 a1 n) 9 = 127 then (lebSx (lebJn (lebCut l0 a1 n) 0 0) n, a1 + n, 0) else (0, 0, 21) := by unfold lebReadS; rw [hL]
    rw [hf]
    have hlen := lebCut_length (l0 := l0) (a1 := a1) hln
    have HLN := Lib.hid hlen
    have hone := lebS1_some _ n hn hn10 hlen
    have HL := Lib.hid hL
    have HF := Lib.hid hf
    have HONE := Lib.hid hone
    clear hL hf hr0 hone hlen
    have hu := Try.underlying67
    generalize lebSx (lebJn (lebCut l0 a1 n) 0 0) n = sx at HONE ⊢
    by_cases hok : n < 10 ∨ rd (lebCut l0 a1 n) 9 = 0 ∨ rd (lebCut l0 a1 n) 9 = 127
    · have HOK := Lib.hid hok
      clear hok
      go_enter Try.func41, Try.ntmps41
      go_wp2_with fail
      refine (lebGroups_calls A0 c0 l0 a1 _ (Kd.C_alloc HR0.out _) hc0).mono ?_
      rintro e w' ⟨hg, rfl⟩
      obtain ⟨ad, rfl, rfl⟩ := lebGrpOut_ok HL.out hg
      clear hg
      have hr1 := lebCut_reads (n := n) HR0.out hc0 hn hln
      go_wp2_with fail
      have hc := leb_ReadSleb_1.calls 1001 (some (ad.add a1.toNat)) (c0 - a1.toNat) (lebCut l0 a1 n) _ _ _ (Kd.C_alloc hr1 (Obj.cells #[Value.func (Fn.func 40) #[] #[]] 67)) (by rw [HLN.out]; omega) HONE.out
      rw [HLN.out] at hc
      refine hc.mono ?_
      clear hc hr1
      rintro e w' ⟨rfl, ⟨nd, rfl⟩⟩
      have hd : decide (n < 10 ∨ rd (lebCut l0 a1 n) 9 = 0 ∨ rd (lebCut l0 a1 n) 9 = 127) = true := decide_eq_true HOK.out
      rw [hd]
      clear hd
      go_wp2
      go_ret3
      refine ⟨?_, by repeat (first | exact hb0 | apply below_alloc | apply pw_below_drewN | apply below_drew1)⟩
      rfl
    · have HOK := Lib.hid hok
      clear hok
      go_enter Try.func41, Try.ntmps41
      go_wp2_with fail
      refine (lebGroups_calls A0 c0 l0 a1 _ (Kd.C_alloc HR0.out _) hc0).mono ?_
      rintro e w' ⟨hg, rfl⟩
      obtain ⟨ad, rfl, rfl⟩ := lebGrpOut_ok HL.out hg
      clear hg
      have hr1 := lebCut_reads (n := n) HR0.out hc0 hn hln
      go_wp2_with fail
      have hc := leb_ReadSleb_1.calls 1001 (some (ad.add a1.toNat)) (c0 - a1.toNat) (lebCut l0 a1 n) _ _ _ (Kd.C_alloc hr1 (Obj.cells #[Value.func (Fn.func 40) #[] #[]] 67)) (by rw [HLN.out]; omega) HONE.out
      rw [HLN.out] at hc
      refine hc.mono ?_
      clear hc hr1
      rintro e w' ⟨rfl, ⟨nd, rfl⟩⟩
      have hd : decide (n < 10 ∨ rd (lebCut l0 a1 n) 9 = 0 ∨ rd (lebCut l0 a1 n) 9 = 127) = false := decide_eq_false HOK.out
      rw [hd]
      clear hd
      go_wp2
      go_ret3
      refine ⟨?_, by repeat (first | exact hb0 | apply below_alloc | apply pw_below_drewN | apply below_drew1)⟩
      rfl
def leb_ReadSleb.f (l0 : List Int) (a1 : Int) : Option (Int × Int × Int) := some (lebReadS l0 a1)
set_option maxHeartbeats 1000000 in
theorem leb_ReadSleb.calls (A0 : Option Addr) (c0 : Nat) (l0 : List Int) (a1 : Int) (r1 : Int) (r2 : Int) (r3 : Int) (w : World) (hr0 : Kd.C (Kd.int .u8) w A0 l0.length l0) (hc0 : l0.length ≤ c0) (h : leb_ReadSleb.f l0 a1 = some (r1, r2, r3)) :
    Calls Try.prog 23 #[.slice A0 l0.length c0, .int .i64 a1] w fun e w' => e = .returned (.tuple #[.int .i64 r1, .int .i64 r2, .int .i64 r3]) ∧ Below w.heap.size w w' := by
  have HR0 := Aside0.mk hr0
  have hb0 := Below.refl w.heap.size w
  have HX : Hid (lebReadS l0 a1 = (r1, r2, r3)) := Lib.hid (Option.some.inj h)
  have hu := Try.underlying67
  clear hr0 h
  go_enter Try.func23, Try.ntmps23
  go_wp2_with fail
  have hc := lebReadS_calls A0 c0 l0 a1 _ (Kd.C_alloc HR0.out (Obj.cells #[Value.func (Fn.func 40) #[] #[]] 67)) hc0
  rw [HX.out] at hc
  refine hc.mono ?_
  clear hc
  rintro e w' ⟨rfl, hb1⟩
  have hb2 : Below w.heap.size w w' := below_then (below_alloc hb0 _) (by simp) hb1
  clear hb1
  replace hb2 := Aside0.mk hb2
  go_wp2
  go_ret3
  exact ⟨rfl, hb2.out⟩


end Go.Proofs.Ytjcabmopajhggaa.G
