/- Each theorem here says what a call of one Go function returns, and what it leaves of the memory, for the arguments that its hypotheses name. Printed by a driver of this session over the kit's printer; what stands behind GIVENBYHAND is this session's own text. -/
import Derived.Test.YtjcabmopajhggaaG0
import Derived.Test.YtjcabmopajhggaaGf16
import Derived.Test.YtjcabmopajhggaaGf20
import Derived.Test.YtjcabmopajhggaaGf14
import Derived.Test.YtjcabmopajhggaaGf15
import Derived.Test.YtjcabmopajhggaaGf17
import Derived.Test.YtjcabmopajhggaaGf18
import Derived.Test.YtjcabmopajhggaaGf19
import Derived.Test.YtjcabmopajhggaaGf21
namespace Go.Proofs.Ytjcabmopajhggaa.G
open Go.RowKit Go.Proofs.YtjcabmopajhggaaW.PrintWords Go.Proofs.YtjcabmopajhggaaW.PrintLast Go.Proofs.YtjcabmopajhggaaW.PrintMore
attribute [local go_sem] max2_int min2_int max_two min_two max_three min_three max_four min_four   -- for this text's walks alone
set_option linter.unusedVariables false
set_option linter.unusedSimpArgs false

/-! ### gangwaylaw01_LebPuts: function 4 -/
-- GIVENBYHAND 
/-- The law's answer, where the program's four answers are the reference's: the law's own text but for the bytes that were lent. -/
def gangwaylaw01_LebPuts.f (k : Nat) (a0 a1 : Int) (l2 : List Int) (a3 : Int) (a4 : Bool) : Option Bool :=
  (leb_Put.f k a0 a1).bind fun p => (leb_Get.f k l2 a3 a1 a4).bind fun g => (gangwayref01_Put.f k a0 a1).bind fun q => (gangwayref01_Get.f k l2 a3 a1 a4).bind fun h => (gangwaylaw01_knows.f k).bind fun b =>
    if p = q ∧ g = h ∧ b = true ∧ l2.length ≤ 140737488351232 then some true else none
theorem gangwaylaw01_LebPuts.calls (k : Nat) (a0 a1 : Int) (A2 : Option Addr) (c2 : Nat) (l2 : List Int) (a3 : Int) (a4 : Bool) (r : Bool) (w : World) (hr2 : Kd.C (Kd.int .u8) w A2 l2.length l2) (hc2 : l2.length ≤ c2) (h : gangwaylaw01_LebPuts.f k a0 a1 l2 a3 a4 = some r) :
    Calls Try.prog 4 #[.int .i64 a0, .int .i64 a1, .slice A2 l2.length c2, .int .i64 a3, .bool a4] w fun e w' => e = .returned (.bool r) ∧ Below w.heap.size w w' := by
  unfold gangwaylaw01_LebPuts.f at h
  simp only [Option.bind_eq_some_iff] at h
  obtain ⟨⟨p1, p2⟩, hp, ⟨g1, g2⟩, hg, ⟨q1, q2⟩, hq, ⟨h1, h2⟩, hh, b, hb, hif⟩ := h
  split at hif
  case isFalse => cases hif
  case isTrue hcs =>
  obtain ⟨e1, e2, rfl, hlim⟩ := hcs
  cases e1
  cases e2
  obtain rfl := Option.some.inj hif
  have HP := Aside0.mk hp
  have HG := Aside0.mk hg
  have HQ := Aside0.mk hq
  have HH := Aside0.mk hh
  have HK := Aside0.mk hb
  have HR2 := Aside0.mk hr2
  have HB0 := Aside0.mk (Below.refl w.heap.size w)
  clear hp hg hq hh hb hif hr2
  go_enter Try.func4, Try.ntmps4
  go_wp2_with fail
  refine (lent_calls A2 c2 l2 _ HR2.out hc2 hlim).mono ?_
  rintro e w1 ⟨A, c, rfl, hx, hb1⟩
  have HX := Aside0.mk hx
  have HB1 := Aside0.mk hb1
  clear hx hb1 HB0
  go_wp2_with fail
  refine (leb_Put.calls k a0 a1 p1 p2 _ HP.out).mono ?_
  rintro e w2 ⟨v, rfl, hv, hb2⟩
  have HX2 := Aside0.mk (Kd.R_below HX.out hb2)
  have HV := Aside0.mk hv
  have HB2 := Aside0.mk (below_step HB1.out hb2)
  clear hv hb2 HX HB1
  have hcx := (Kd.R_reads' HX2.out)
  have HC := Aside0.mk (hcx.2.1)
  have HT := Aside0.mk (Kd.C_take (m := l2.length) hcx.2.2 (by simp))
  clear hcx
  rw [List.take_left] at HT
  go_wp2_with fail
  refine (leb_Get.calls k A c l2 a3 a1 a4 g1 g2 _ HT.out (by have := HC.out; omega) HG.out).mono ?_
  rintro e w3 ⟨rfl, ⟨n3, rfl⟩⟩
  go_wp2_with fail
  refine (gangwayref01_Put.calls k a0 a1 p1 p2 _ HQ.out).mono ?_
  rintro e w4 ⟨u, rfl, hu, hb4⟩
  have HX4 := Aside0.mk (Kd.R_below (Kd.R_drewN HX2.out n3) hb4)
  have HV4 := Aside0.mk (Kd.R_below (Kd.R_drewN HV.out n3) hb4)
  have HU := Aside0.mk hu
  have HB4 := Aside0.mk (below_step (pw_below_drewN HB2.out n3) hb4)
  clear hu hb4 HX2 HV HB2 HT
  have HR4 := Aside0.mk (Kd.C_below HR2.out HB4.out)
  go_wp2_with fail
  refine (gangwayref01_Get.calls k A2 c2 l2 a3 a1 a4 g1 g2 _ HR4.out hc2 HH.out).mono ?_
  rintro e w5 ⟨rfl, ⟨n5, rfl⟩⟩
  have hv1 := fun m : Nat => own_string (P := Try.prog) Try.underlying22 Try.underlying5 Try.underlying9 (Kd.own_of_R (Kd.R_drewN HV4.out m))
  have hv2 := fun m : Nat => own_string (P := Try.prog) Try.underlying22 Try.underlying5 Try.underlying9 (Kd.own_of_R (Kd.R_drewN HU.out m))
  go_wp2_with fail
  refine (gangwaylaw01_num.calls p2 p2 _ rfl).mono ?_
  rintro e w6 ⟨rfl, ⟨n6, rfl⟩⟩
  go_wp2_with fail
  refine (gangwaylaw01_num.calls g2 g2 _ rfl).mono ?_
  rintro e w7 ⟨rfl, ⟨n7, rfl⟩⟩
  go_wp2_with fail
  refine (stays_calls A c A2 c2 l2 _ (Kd.C_drewN (Kd.R_reads' HX4.out).2.2 _) HC.out (Kd.C_drewN HR4.out _) hc2 hlim).mono ?_
  rintro e w8 ⟨rfl, ⟨n8, rfl⟩⟩
  go_wp2_with fail
  refine (gangwaylaw01_knows.calls k true _ HK.out).mono ?_
  rintro e w9 ⟨rfl, hb9⟩
  have HB9 := Aside0.mk (below_step (pw_below_drewN HB4.out _) hb9)
  clear hb9
  go_wp2_with fail
  go_ret
  exact ⟨rfl, HB9.out⟩
theorem gangwaylaw01_LebPuts.mono : ∀ a0 a1 a2 a3 a4 k, LeO (gangwaylaw01_LebPuts.f k a0 a1 a2 a3 a4) (gangwaylaw01_LebPuts.f (k + 1) a0 a1 a2 a3 a4) := by
  intro a0 a1 a2 a3 a4 k
  unfold gangwaylaw01_LebPuts.f
  refine LeO.bind (leb_Put.mono _ _ _) (fun _ => LeO.bind (leb_Get.mono _ _ _ _ _) (fun _ => LeO.bind (gangwayref01_Put.mono _ _ _) (fun _ => LeO.bind (gangwayref01_Get.mono _ _ _ _ _) (fun _ => LeO.bind (gangwaylaw01_knows.mono _) (fun _ => LeO.refl _)))))


end Go.Proofs.Ytjcabmopajhggaa.G
