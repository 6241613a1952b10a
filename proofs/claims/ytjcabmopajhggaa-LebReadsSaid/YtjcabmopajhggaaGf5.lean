/- Each theorem here says what a call of one Go function returns, and what it leaves of the memory, for the arguments that its hypotheses name. Printed by a driver of this session over the kit's printer; what stands behind GIVENBYHAND is this session's own text. -/
import Derived.Test.YtjcabmopajhggaaG0
import Derived.Test.YtjcabmopajhggaaGf20
import Derived.Test.YtjcabmopajhggaaGf22
import Derived.Test.YtjcabmopajhggaaGf14
import Derived.Test.YtjcabmopajhggaaGf15
import Derived.Test.YtjcabmopajhggaaGf21
import Derived.Test.YtjcabmopajhggaaGf23
import Derived.Test.YtjcabmopajhggaaGf24
import Derived.Test.YtjcabmopajhggaaGf25
import Derived.Test.YtjcabmopajhggaaGf26
import Derived.Test.YtjcabmopajhggaaGf27
namespace Go.Proofs.Ytjcabmopajhggaa.G
open Go.RowKit Go.Proofs.YtjcabmopajhggaaW.PrintWords Go.Proofs.YtjcabmopajhggaaW.PrintLast Go.Proofs.YtjcabmopajhggaaW.PrintMore
attribute [local go_sem] max2_int min2_int max_two min_two max_three min_three max_four min_four   -- for this text's walks alone
set_option linter.unusedVariables false
set_option linter.unusedSimpArgs false

/-! ### gangwaylaw01_LebReads: function 5 -/
-- GIVENBYHAND 
/-- The law's answer, where the program's three answers are the reference's. -/
def gangwaylaw01_LebReads.f (k : Nat) (l0 : List Int) (a1 : Int) : Option Bool :=
  (leb_ReadUleb.f l0 a1).bind fun p => (leb_ReadSleb.f l0 a1).bind fun q => (leb_Text.f k l0 a1).bind fun s => (gangwayref01_ReadUleb.f k l0 a1).bind fun p' => (gangwayref01_ReadSleb.f k l0 a1).bind fun q' => (gangwayref01_Text.f k l0 a1).bind fun s' => (gangwaylaw01_knows.f k).bind fun b =>
    if p = p' ∧ q = q' ∧ s = s' ∧ b = true ∧ l0.length ≤ 140737488351232 then some true else none
theorem gangwaylaw01_LebReads.mono : ∀ a0 a1 k, LeO (gangwaylaw01_LebReads.f k a0 a1) (gangwaylaw01_LebReads.f (k + 1) a0 a1) := by
  intro a0 a1 k
  unfold gangwaylaw01_LebReads.f
  refine LeO.bind (LeO.refl _) (fun _ => LeO.bind (LeO.refl _) (fun _ => LeO.bind (leb_Text.mono _ _ _) (fun _ => LeO.bind (gangwayref01_ReadUleb.mono _ _ _) (fun _ => LeO.bind (gangwayref01_ReadSleb.mono _ _ _) (fun _ => LeO.bind (gangwayref01_Text.mono _ _ _) (fun _ => LeO.bind (gangwaylaw01_knows.mono _) (fun _ => LeO.refl _)))))))
set_option maxHeartbeats 1000000 in
set_option maxRecDepth 100000 in
theorem gangwaylaw01_LebReads.calls (k : Nat) (A0 : Option Addr) (c0 : Nat) (l0 : List Int) (a1 : Int) (r : Bool) (w : World) (hr0 : Kd.C (Kd.int .u8) w A0 l0.length l0) (hc0 : l0.length ≤ c0) (h : gangwaylaw01_LebReads.f k l0 a1 = some r) :
    Calls Try.prog 5 #[.slice A0 l0.length c0, .int .i64 a1] w fun e w' => e = .returned (.bool r) ∧ Below w.heap.size w w' := by
  unfold gangwaylaw01_LebReads.f at h
  simp only [Option.bind_eq_some_iff] at h
  obtain ⟨⟨p1, p2, p3⟩, hp, ⟨q1, q2, q3⟩, hq, ⟨s1, s2, s3⟩, hs, p', hp', q', hq', s', hs', b, hb, hif⟩ := h
  split at hif
  case isFalse => cases hif
  case isTrue hcs =>
  obtain ⟨e1, e2, e3, rfl, hlim⟩ := hcs
  cases e1
  cases e2
  cases e3
  obtain rfl := Option.some.inj hif
  have HP := Aside0.mk hp
  have HQ := Aside0.mk hq
  have HS := Aside0.mk hs
  have HP' := Aside0.mk hp'
  have HQ' := Aside0.mk hq'
  have HS' := Aside0.mk hs'
  have HK := Aside0.mk hb
  have HR0 := Aside0.mk hr0
  have HB0 := Aside0.mk (Below.refl w.heap.size w)
  clear hp hq hs hp' hq' hs' hb hif hr0
  go_enter Try.func5, Try.ntmps5
  go_wp2_with fail
  refine (lent_calls A0 c0 l0 _ HR0.out hc0 hlim).mono ?_
  rintro e w1 ⟨A, c, rfl, hx, hb1⟩
  have hcx := (Kd.R_reads' hx)
  have HC := Aside0.mk (hcx.2.1)
  have HT := Aside0.mk (Kd.C_take (m := l0.length) hcx.2.2 (by simp))
  clear hcx
  rw [List.take_left] at HT
  have HX := Aside0.mk hx
  have HB1 := Aside0.mk hb1
  clear hx hb1 HB0
  go_wp2_with fail
  refine (leb_ReadUleb.calls A c l0 a1 p1 p2 p3 _ HT.out (by have := HC.out; omega) HP.out).mono ?_
  rintro e w2 ⟨rfl, hb2⟩
  have HX2 := Aside0.mk (Kd.R_below HX.out hb2)
  have HT2 := Aside0.mk (Kd.C_below HT.out hb2)
  have HB2 := Aside0.mk (below_step HB1.out hb2)
  clear hb2 HX HT HB1
  go_wp2_with fail
  refine (leb_ReadSleb.calls A c l0 a1 q1 q2 q3 _ HT2.out (by have := HC.out; omega) HQ.out).mono ?_
  rintro e w3 ⟨rfl, hb3⟩
  have HX3 := Aside0.mk (Kd.R_below HX2.out hb3)
  have HT3 := Aside0.mk (Kd.C_below HT2.out hb3)
  have HB3 := Aside0.mk (below_step HB2.out hb3)
  clear hb3 HX2 HT2 HB2
  go_wp2_with fail
  refine (leb_Text.calls k A c l0 a1 s1 s2 s3 _ HT3.out (by have := HC.out; omega) HS.out).mono ?_
  rintro e w4 ⟨rfl, ⟨n4, rfl⟩⟩
  have HR3 := Aside0.mk (Kd.C_below HR0.out HB3.out)
  go_wp2_with fail
  refine (gangwayref01_ReadUleb.calls k A0 c0 l0 a1 p1 p2 p3 _ (Kd.C_drewN HR3.out _) hc0 HP'.out).mono ?_
  rintro e w5 ⟨rfl, ⟨n5, rfl⟩⟩
  go_wp2_with fail
  refine (gangwayref01_ReadSleb.calls k A0 c0 l0 a1 q1 q2 q3 _ (Kd.C_drewN HR3.out _) hc0 HQ'.out).mono ?_
  rintro e w6 ⟨rfl, ⟨n6, rfl⟩⟩
  go_wp2_with fail
  refine (gangwayref01_Text.calls k A0 c0 l0 a1 s1 s2 s3 _ (Kd.C_drewN HR3.out _) hc0 HS'.out).mono ?_
  rintro e w7 ⟨rfl, ⟨n7, rfl⟩⟩
  go_wp2_with fail
  refine (gangwaylaw01_num.calls p3 p3 _ rfl).mono ?_
  rintro e w8 ⟨rfl, ⟨n8, rfl⟩⟩
  go_wp2_with fail
  refine (gangwaylaw01_num.calls q3 q3 _ rfl).mono ?_
  rintro e w9 ⟨rfl, ⟨n9, rfl⟩⟩
  go_wp2_with fail
  refine (gangwaylaw01_num.calls s3 s3 _ rfl).mono ?_
  rintro e w10 ⟨rfl, ⟨n10, rfl⟩⟩
  go_wp2_with fail
  refine (stays_calls A c A0 c0 l0 _ (Kd.C_drewN (Kd.R_reads' HX3.out).2.2 _) (by have := HC.out; omega) (Kd.C_drewN HR3.out _) hc0 hlim).mono ?_
  rintro e w11 ⟨rfl, ⟨n11, rfl⟩⟩
  go_wp2_with fail
  refine (gangwaylaw01_knows.calls k true _ HK.out).mono ?_
  rintro e w12 ⟨rfl, hb12⟩
  have HB12 := Aside0.mk (below_step (pw_below_drewN HB3.out _) hb12)
  clear hb12
  go_wp2_with fail
  go_ret
  exact ⟨rfl, HB12.out⟩


end Go.Proofs.Ytjcabmopajhggaa.G
