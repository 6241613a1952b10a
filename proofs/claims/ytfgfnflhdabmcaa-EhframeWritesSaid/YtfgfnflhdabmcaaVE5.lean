/- Lemmas and contracts, one text behind the other: what the row of this claim needs; no conditions beyond those that each theorem names. -/
import Derived.Test.YtfgfnflhdabmcaaVE4
set_option linter.unusedVariables false
set_option linter.unusedSimpArgs false
set_option maxRecDepth 100000
section
namespace Go.Proofs.Ytfgfnflhdabmcaa.Eh
open Go.RowKit Go.Proofs.Ytfgfnflhdabmcaa.G Go.Proofs.YtfgfnflhdabmcaaW.PrintWords Go.Proofs.YtfgfnflhdabmcaaW.PrintLast Go.Proofs.YtfgfnflhdabmcaaW.PrintMore Go.Proofs.Ytfgfnflhdabmcaa.Bit Go.Proofs.Ytfgfnflhdabmcaa.Leb Go.Proofs.Ytfgfnflhdabmcaa.EhOf
theorem enc_k (a0 : Int) (w : -9223372036854775808 ≤ a0 ∧ a0 ≤ 9223372036854775807) (k : Nat) (hk : 10 ≤ k) : gangwayref14_Encoding.f k a0 = some (ofF a0).2.2.2 := by
 by_cases h : a0 ∈ [0, 1, 2, 3, 4, 9, 10, 11, 12, 16, 17, 18, 19, 20, 25, 26, 27, 28, 48, 49, 50, 51, 52, 57, 58, 59, 60]
 ·
  obtain ⟨h1, h2, h3⟩ := enc_ref a0 h
  rw [h3.enc k hk]
  exact congrArg some (by rw [h1])
 obtain ⟨h1, h2⟩ := enc_bad a0 w.1 w.2 h
 rw [h2 k hk, h1]
theorem all_Cr {l : List S43} {p : S69 → Bool} (h : ∀ i, i < l.length → p (cieV (rd_T43 l ((i : Nat) : Int))) = true) : (l.map cieV).all p = true :=
  all_C fun i hi => by
    rw [List.length_map] at hi
    rw [rd_cieV l i hi]
    exact h i hi
theorem all_Fr {l : List S61} {p : S46 → Bool} (h : ∀ i, i < l.length → p (fdeV (rd_T61 l ((i : Nat) : Int))) = true) : (l.map fdeV).all p = true :=
  all_F fun i hi => by
    rw [List.length_map] at hi
    rw [rd_fdeV l i hi]
    exact h i hi
theorem memCr (l : List S43) (i : Nat) (h : i < l.length) : cieV (rd_T43 l (i : Int)) ∈ l.map cieV := List.mem_map.2 ⟨_, rd_memC l i h, rfl⟩
theorem memFr (l : List S61) (i : Nat) (h : i < l.length) : fdeV (rd_T61 l (i : Int)) ∈ l.map fdeV := List.mem_map.2 ⟨_, rd_memF l i h, rfl⟩
theorem check_six {c : List S69} {f : List S46} (h : ¬ (¬ (4000 < c.length ∨ 4000 < f.length) ∧ c.all okC0 = true ∧ f.all okF0 = true)) : checkV c f = 6 := by
 unfold checkV
 by_cases h0 : 4000 < c.length ∨ 4000 < f.length
 ·
  rw [if_pos h0]
 rw [if_neg h0]
 by_cases h1 : c.all okC0 = true
 ·
  rw [if_neg (by rw [h1]; decide)]
  by_cases h2 : f.all okF0 = true
  ·
   exact absurd ⟨h0, h1, h2⟩ h
  rw [if_pos (by simpa using h2)]
 rw [if_pos (by simpa using h1)]
set_option maxHeartbeats 4000000 in
theorem rcheck_calls (A0 : Option Addr) (c0 : Nat) (c : List S43) (A1 : Option Addr) (c1 : Nat) (f : List S61) (w : World) (hr0 : Kd.C k43 w A0 c.length c) (hc0 : c.length ≤ c0) (hr1 : Kd.C k61 w A1 f.length f) (hc1 : f.length ≤ c1) (hw : ∀ x ∈ c, -9223372036854775808 ≤ x.f0 ∧ x.f0 ≤ 9223372036854775807) :
    Calls Try.prog 13 #[.slice A0 c.length c0, .slice A1 f.length c1] w fun e w' => e = .returned (.int .i64 (checkV (c.map cieV) (f.map fdeV))) ∧ Below w.heap.size w w' := by
 have HC := am hr0
 have HF := am hr1
 have HW := am hw
 have hlc : c.length ≤ 9223372036854775807 := hr0.2.1
 have hlf : f.length ≤ 9223372036854775807 := hr1.2.1
 clear hr0 hr1 hw
 go_enter Try.func13, Try.ntmps13
 go_upto_region 1 with fail
 go_cut [5] (fun v5 wc => ∃ b : Bool, v5 = .bool b ∧ Aside0 (b = false ↔ ¬ (4000 < c.length ∨ 4000 < f.length)) ∧ Aside0 (Below w.heap.size w wc))
 case first =>
  by_cases hc : 4000 < c.length
  ·
   have hd : decide ((4000 : Int) < (c.length : Int)) = true := decide_eq_true (by omega)
   go_wp2
   go_meet
   exact ⟨true, rfl, ⟨⟨fun h => (by cases h), fun h => absurd (.inl hc) h⟩⟩, ⟨Below.refl _ _⟩⟩
  have hd : decide ((4000 : Int) < (c.length : Int)) = false := decide_eq_false (by omega)
  by_cases hf : 4000 < f.length
  ·
   have hd2 : decide ((4000 : Int) < (f.length : Int)) = true := decide_eq_true (by omega)
   go_wp2
   go_meet
   exact ⟨true, rfl, ⟨⟨fun h => (by cases h), fun h => absurd (.inr hf) h⟩⟩, ⟨Below.refl _ _⟩⟩
  have hd2 : decide ((4000 : Int) < (f.length : Int)) = false := decide_eq_false (by omega)
  go_wp2
  go_meet
  exact ⟨false, rfl, ⟨⟨fun _ h => (by rcases h with h | h <;> omega), fun _ => rfl⟩⟩, ⟨Below.refl _ _⟩⟩
 case rest =>
  obtain ⟨b, rfl, HN, HBc⟩ := hcut
  go_wp2
  go_loopg [5, 6] c.length (fun kq v5 v6 wr => ∃ (k : Nat) (b : Bool), k + kq = c.length ∧ v5 = .bool b ∧ v6 = .int .i64 (k : Int) ∧ Aside0 (b = false ↔ ¬ (4000 < c.length ∨ 4000 < f.length) ∧ ∀ i : Nat, i < k → okC0 (cieV (rd_T43 c (i : Int))) = true) ∧ Aside0 (Below w.heap.size w wr))
  case atStart => exact ⟨0, b, by omega, rfl, rfl, ⟨⟨fun h => ⟨HN.out.1 h, fun i hi => absurd hi (by omega)⟩, fun h => HN.out.2 h.1⟩⟩, ⟨HBc.out⟩⟩
  case round =>
   clear HN
   obtain ⟨k, b, hk, rfl, rfl, HK, HB0⟩ := hrel
   cases gk with
   | succ gk =>
    have hlt : decide ((k : Int) < (c.length : Int)) = true := decide_eq_true (by omega)
    cases b with
    | true =>
     go_wp2
     go_roundg gk
     case measure => omega
     case rel => exact ⟨k + 1, true, by omega, rfl, by go_num, ⟨⟨fun h => (by cases h), fun h => (HK.out.2 ⟨h.1, fun i hi => h.2 i (by omega)⟩)⟩⟩, HB0⟩
    | false =>
     obtain ⟨ad, Ae, ce, rfl, z0, z1, hce, hCe⟩ := at_T43 (Kd.C_below HC.out HB0.out) (k : Int) (by omega) (by omega)
     rw [Int.toNat_natCast] at z0 z1
     have hL : okC0 (cieV (rd_T43 c (k : Int))) = decide ((rd_T43 c (k : Int)).f1.length ≤ 3992) := by unfold okC0 cieV; rw [Cfa.conv_length]
     have HS := am (show ∀ b : Bool, okC0 (cieV (rd_T43 c (k : Int))) = !b → (b = false ↔ ¬ (4000 < c.length ∨ 4000 < f.length) ∧ ∀ i : Nat, i < k + 1 → okC0 (cieV (rd_T43 c (i : Int))) = true) from fun b hb => ⟨fun h => ⟨(HK.out.1 rfl).1, fun i hi => by
       rcases Nat.lt_or_eq_of_le (Nat.le_of_lt_succ hi) with h1 | h1
       · exact (HK.out.1 rfl).2 i h1
       · rw [h1, hb, h]; rfl⟩, fun h => by have := h.2 k (by omega); rw [hb] at this; simpa using this⟩)
     clear hCe HK
     generalize rd_T43 c (k : Int) = x at z0 z1 hce hL HS
     by_cases hx : x.f1.length ≤ 3992
     ·
      have hd : decide ((3992 : Int) < (x.f1.length : Int)) = false := decide_eq_false (by omega)
      have HL := am (And.intro hL hx)
      clear hL hx
      go_wp2
      go_roundg gk
      case measure => omega
      case rel => exact ⟨k + 1, false, by omega, rfl, by go_num, ⟨HS.out false (by rw [HL.out.1]; have := HL.out.2; simp [this])⟩, HB0⟩
     have hd : decide ((3992 : Int) < (x.f1.length : Int)) = true := decide_eq_true (by omega)
     have HL := am (And.intro hL hx)
     clear hL hx
     go_wp2
     go_roundg gk
     case measure => omega
     case rel => exact ⟨k + 1, true, by omega, rfl, by go_num, ⟨HS.out true (by rw [HL.out.1]; have := HL.out.2; simp [this])⟩, HB0⟩
   | zero =>
    have hlt : decide ((k : Int) < (c.length : Int)) = false := decide_eq_false (by omega)
    have hltn0 : decide (k < c.length) = false := decide_eq_false (by omega)
    have HN : Aside0 (b = false ↔ (¬ (4000 < c.length ∨ 4000 < f.length) ∧ (c.map cieV).all okC0 = true)) := ⟨⟨fun h => by have h := HK.out.1 h; exact ⟨h.1, all_Cr (fun i hi => h.2 i (by omega))⟩, fun h => HK.out.2 ⟨h.1, fun i hi => by have := List.all_eq_true.1 h.2 _ (memCr c i (by omega)); exact this⟩⟩⟩
    clear HK hlt
    go_wp2
    try rw [hltn0]
    go_loopg [5, 7] f.length (fun kq v5 v7 wr => ∃ (k : Nat) (b : Bool), k + kq = f.length ∧ v5 = .bool b ∧ v7 = .int .i64 (k : Int) ∧ Aside0 (b = false ↔ (¬ (4000 < c.length ∨ 4000 < f.length) ∧ (c.map cieV).all okC0 = true) ∧ ∀ i : Nat, i < k → okF0 (fdeV (rd_T61 f (i : Int))) = true) ∧ Aside0 (Below w.heap.size w wr))
    case atStart => exact ⟨0, b, by omega, rfl, rfl, ⟨⟨fun h => ⟨HN.out.1 h, fun i hi => absurd hi (by omega)⟩, fun h => HN.out.2 h.1⟩⟩, ⟨HB0.out⟩⟩
    case round =>
     clear HN
     obtain ⟨k, b, hk, rfl, rfl, HK, HB1⟩ := hrel
     cases gk with
     | succ gk =>
      have hlt : decide ((k : Int) < (f.length : Int)) = true := decide_eq_true (by omega)
      cases b with
      | true =>
       go_wp2
       go_roundg gk
       case measure => omega
       case rel => exact ⟨k + 1, true, by omega, rfl, by go_num, ⟨⟨fun h => (by cases h), fun h => (HK.out.2 ⟨h.1, fun i hi => h.2 i (by omega)⟩)⟩⟩, HB1⟩
      | false =>
       obtain ⟨ad, Ae, ce, rfl, z0, z1, z2, z3, hce, hCe⟩ := at_T61 (Kd.C_below HF.out HB1.out) (k : Int) (by omega) (by omega)
       rw [Int.toNat_natCast] at z0 z1 z2 z3
       have hL : okF0 (fdeV (rd_T61 f (k : Int))) = decide ((rd_T61 f (k : Int)).f3.length ≤ 3992) := by unfold okF0 fdeV; rw [Cfa.conv_length]
       have HS := am (show ∀ b : Bool, okF0 (fdeV (rd_T61 f (k : Int))) = !b → (b = false ↔ (¬ (4000 < c.length ∨ 4000 < f.length) ∧ (c.map cieV).all okC0 = true) ∧ ∀ i : Nat, i < k + 1 → okF0 (fdeV (rd_T61 f (i : Int))) = true) from fun b hb => ⟨fun h => ⟨(HK.out.1 rfl).1, fun i hi => by
         rcases Nat.lt_or_eq_of_le (Nat.le_of_lt_succ hi) with h1 | h1
         · exact (HK.out.1 rfl).2 i h1
         · rw [h1, hb, h]; rfl⟩, fun h => by have := h.2 k (by omega); rw [hb] at this; simpa using this⟩)
       clear hCe HK
       generalize rd_T61 f (k : Int) = x at z0 z1 z2 z3 hce hL HS
       by_cases hx : x.f3.length ≤ 3992
       ·
        have hd : decide ((3992 : Int) < (x.f3.length : Int)) = false := decide_eq_false (by omega)
        have HL := am (And.intro hL hx)
        clear hL hx
        go_wp2
        go_roundg gk
        case measure => omega
        case rel => exact ⟨k + 1, false, by omega, rfl, by go_num, ⟨HS.out false (by rw [HL.out.1]; have := HL.out.2; simp [this])⟩, HB1⟩
       have hd : decide ((3992 : Int) < (x.f3.length : Int)) = true := decide_eq_true (by omega)
       have HL := am (And.intro hL hx)
       clear hL hx
       go_wp2
       go_roundg gk
       case measure => omega
       case rel => exact ⟨k + 1, true, by omega, rfl, by go_num, ⟨HS.out true (by rw [HL.out.1]; have := HL.out.2; simp [this])⟩, HB1⟩
     | zero =>
      have hlt : decide ((k : Int) < (f.length : Int)) = false := decide_eq_false (by omega)
      have hltn1 : decide (k < f.length) = false := decide_eq_false (by omega)
      have HN : Aside0 (b = false ↔ ((¬ (4000 < c.length ∨ 4000 < f.length) ∧ (c.map cieV).all okC0 = true) ∧ (f.map fdeV).all okF0 = true)) := ⟨⟨fun h => by have h := HK.out.1 h; exact ⟨h.1, all_Fr (fun i hi => h.2 i (by omega))⟩, fun h => HK.out.2 ⟨h.1, fun i hi => by have := List.all_eq_true.1 h.2 _ (memFr f i (by omega)); exact this⟩⟩⟩
      clear HK hlt
      cases b with
      | true =>
       go_wp2
       go_ret
       exact ⟨by rw [check_six (c := c.map cieV) (f := f.map fdeV) (fun h => absurd (HN.out.2 ⟨⟨by have := h.1; rwa [List.length_map, List.length_map] at this, h.2.1⟩, h.2.2⟩) (by decide))]; rfl, HB1.out⟩
      | false =>
       obtain ⟨⟨hn, ha0⟩, ha1⟩ := HN.out.1 rfl
       have HNN : Aside0 (¬ (4000 < (c.map cieV).length ∨ 4000 < (f.map fdeV).length)) := ⟨by rw [List.length_map, List.length_map]; exact hn⟩
       have HA0 := am ha0
       have HA1 := am ha1
       clear ha0 ha1 HN
       go_wp2
       try rw [hltn0]
       try rw [hltn1]
       go_loopg [8] c.length (fun kq v8 wr => ∃ k : Nat, k + kq = c.length ∧ v8 = .int .i64 (k : Int) ∧ Aside0 (∀ i : Nat, i < k → okC1 (cieV (rd_T43 c (i : Int))) = true) ∧ Aside0 (Below w.heap.size w wr))
       case atStart => exact ⟨0, by omega, rfl, ⟨fun i hi => absurd hi (by omega)⟩, ⟨HB1.out⟩⟩
       case round =>
        obtain ⟨k, hk, rfl, HK, HB2⟩ := hrel
        cases gk with
        | succ gk =>
         have hlt : decide ((k : Int) < (c.length : Int)) = true := decide_eq_true (by omega)
         obtain ⟨ad, Ae, ce, rfl, z0, z1, hce, hCe⟩ := at_T43 (Kd.C_below HC.out HB2.out) (k : Int) (by omega) (by omega)
         rw [Int.toNat_natCast] at z0 z1
         have HCE := am hCe
         have HM := am (show okC1 (cieV (rd_T43 c (k : Int))) = true → ∀ i : Nat, i < k + 1 → okC1 (cieV (rd_T43 c (i : Int))) = true from fun hb i hi => by
           rcases Nat.lt_or_eq_of_le (Nat.le_of_lt_succ hi) with h1 | h1
           · exact HK.out i h1
           · rw [h1, hb])
         have HBAD := am (show ∀ hbad : okC1 (cieV (rd_T43 c (k : Int))) = false, checkV (c.map cieV) (f.map fdeV) = 140 from fun hbad => by
           unfold checkV
           rw [if_neg HNN.out]
           rw [if_neg (by rw [HA0.out]; decide)]
           rw [if_neg (by rw [HA1.out]; decide)]
           exact if_pos (all_bad (memCr c k (by omega)) hbad))
         have hwk := HW.out _ (rd_memC c k (by omega))
         clear hCe HK
         generalize rd_T43 c (k : Int) = x at z0 z1 HCE HM HBAD hce hwk
         go_wp2_with fail
         refine (gangwayref14_Encoding.calls 10 x.f0 (ofF x.f0).2.2.2 wr (enc_k x.f0 hwk 10 (by omega))).mono ?_
         rintro e w' ⟨rfl, q, rfl⟩
         have HB' := am (pw_below_drewN HB2.out q)
         have ho : okC1 (cieV x) = (ofF x.f0).2.2.2 := rfl
         generalize (ofF x.f0).2.2.2 = o at ho ⊢
         cases o with
         | true =>
          have hb := ho
          clear ho
          go_wp2
          go_roundg gk
          case measure => omega
          case rel => exact ⟨k + 1, by omega, by go_num, ⟨HM.out hb⟩, ⟨HB'.out⟩⟩
         | false =>
          have hb := ho
          clear ho
          go_wp2
          go_ret
          exact ⟨by rw [HBAD.out hb]; rfl, HB'.out⟩
        | zero =>
         have hlt : decide ((k : Int) < (c.length : Int)) = false := decide_eq_false (by omega)
         have HA2 : Aside0 ((c.map cieV).all okC1 = true) := ⟨all_Cr (fun i hi => HK.out i (by omega))⟩
         have hltn2 : decide (k < c.length) = false := decide_eq_false (by omega)
         clear HK hlt
         go_wp2
         try rw [hltn0]
         try rw [hltn1]
         try rw [hltn2]
         go_loopg [9] f.length (fun kq v9 wr => ∃ k : Nat, k + kq = f.length ∧ v9 = .int .i64 (k : Int) ∧ Aside0 (∀ i : Nat, i < k → okF1 (c.map cieV).length (fdeV (rd_T61 f (i : Int))) = true) ∧ Aside0 (Below w.heap.size w wr))
         case atStart => exact ⟨0, by omega, rfl, ⟨fun i hi => absurd hi (by omega)⟩, ⟨HB2.out⟩⟩
         case round =>
          obtain ⟨k, hk, rfl, HK, HB3⟩ := hrel
          cases gk with
          | succ gk =>
           have hlt : decide ((k : Int) < (f.length : Int)) = true := decide_eq_true (by omega)
           obtain ⟨ad, Ae, ce, rfl, z0, z1, z2, z3, hce, hCe⟩ := at_T61 (Kd.C_below HF.out HB3.out) (k : Int) (by omega) (by omega)
           rw [Int.toNat_natCast] at z0 z1 z2 z3
           have HCE := am hCe
           have HM := am (show okF1 (c.map cieV).length (fdeV (rd_T61 f (k : Int))) = true → ∀ i : Nat, i < k + 1 → okF1 (c.map cieV).length (fdeV (rd_T61 f (i : Int))) = true from fun hb i hi => by
             rcases Nat.lt_or_eq_of_le (Nat.le_of_lt_succ hi) with h1 | h1
             · exact HK.out i h1
             · rw [h1, hb])
           have HBAD := am (show ∀ hbad : okF1 (c.map cieV).length (fdeV (rd_T61 f (k : Int))) = false, checkV (c.map cieV) (f.map fdeV) = 140 from fun hbad => by
             unfold checkV
             rw [if_neg HNN.out]
             rw [if_neg (by rw [HA0.out]; decide)]
             rw [if_neg (by rw [HA1.out]; decide)]
             rw [if_neg (by rw [HA2.out]; decide)]
             exact if_pos (all_bad (memFr f k (by omega)) hbad))
           clear hCe HK
           generalize rd_T61 f (k : Int) = x at z0 z1 z2 z3 HCE HM HBAD hce
           have HO := am (show okF1 (c.map cieV).length (fdeV x) = (decide (0 ≤ x.f0) && decide (x.f0 < c.length) && !farB x.f1 && decide (0 ≤ x.f2) && decide (x.f2 ≤ 1048576)) from by rw [List.length_map]; rfl)
           by_cases e0 : x.f0 < 0
           ·
            have he0 : decide (x.f0 < 0) = true := decide_eq_true e0
            have hb : okF1 (c.map cieV).length (fdeV x) = false := by rw [HO.out, decide_eq_false (show ¬ 0 ≤ x.f0 by omega)]; simp
            go_wp2
            go_ret
            exact ⟨by rw [HBAD.out hb]; rfl, HB3.out⟩
           have h0 : decide (x.f0 < 0) = false := decide_eq_false e0
           by_cases e1 : (c.length : Int) ≤ x.f0
           ·
            have he1 : decide ((c.length : Int) ≤ x.f0) = true := decide_eq_true e1
            have hb : okF1 (c.map cieV).length (fdeV x) = false := by rw [HO.out, decide_eq_false (show ¬ x.f0 < (c.length : Int) by omega)]; simp
            go_wp2
            go_ret
            exact ⟨by rw [HBAD.out hb]; rfl, HB3.out⟩
           have h1 : decide ((c.length : Int) ≤ x.f0) = false := decide_eq_false e1
           go_wp2_with fail
           refine (gangwayref14_far.calls x.f1 (farB x.f1) wr (far_f x.f1)).mono ?_
           rintro e w' ⟨rfl, q, rfl⟩
           have HB' := am (pw_below_drewN HB3.out q)
           cases e2 : farB x.f1 with
           | true =>
            have hb : okF1 (c.map cieV).length (fdeV x) = false := by rw [HO.out, e2]; simp
            go_wp2
            go_ret
            exact ⟨by rw [HBAD.out hb]; rfl, HB'.out⟩
           | false =>
            by_cases e3 : x.f2 < 0
            ·
             have he3 : decide (x.f2 < 0) = true := decide_eq_true e3
             have hb : okF1 (c.map cieV).length (fdeV x) = false := by rw [HO.out, decide_eq_false (show ¬ 0 ≤ x.f2 by omega)]; simp
             go_wp2
             go_ret
             exact ⟨by rw [HBAD.out hb]; rfl, HB'.out⟩
            have h3 : decide (x.f2 < 0) = false := decide_eq_false e3
            by_cases e4 : 1048576 < x.f2
            ·
             have he4 : decide (1048576 < x.f2) = true := decide_eq_true e4
             have hb : okF1 (c.map cieV).length (fdeV x) = false := by rw [HO.out, decide_eq_false (show ¬ x.f2 ≤ 1048576 by omega)]; simp
             go_wp2
             go_ret
             exact ⟨by rw [HBAD.out hb]; rfl, HB'.out⟩
            have h4 : decide (1048576 < x.f2) = false := decide_eq_false e4
            have hb : okF1 (c.map cieV).length (fdeV x) = true := by rw [HO.out, e2, decide_eq_true (show 0 ≤ x.f0 by omega), decide_eq_true (show x.f0 < (c.length : Int) by omega), decide_eq_true (show 0 ≤ x.f2 by omega), decide_eq_true (show x.f2 ≤ 1048576 by omega)]; rfl
            go_wp2
            go_roundg gk
            case measure => omega
            case rel => exact ⟨k + 1, by omega, by go_num, ⟨HM.out hb⟩, ⟨HB'.out⟩⟩
          | zero =>
           have hlt : decide ((k : Int) < (f.length : Int)) = false := decide_eq_false (by omega)
           have HA3 : Aside0 ((f.map fdeV).all (okF1 (c.map cieV).length) = true) := ⟨all_Fr (fun i hi => HK.out i (by omega))⟩
           have hltn3 : decide (k < f.length) = false := decide_eq_false (by omega)
           clear HK hlt
           go_wp2
           try rw [hltn0]
           try rw [hltn1]
           try rw [hltn2]
           try rw [hltn3]
           go_loopg [10] c.length (fun kq v10 wr => ∃ k : Nat, k + kq = c.length ∧ v10 = .int .i64 (k : Int) ∧ Aside0 (∀ i : Nat, i < k → okC2 (cieV (rd_T43 c (i : Int))) = true) ∧ Aside0 (Below w.heap.size w wr))
           case atStart => exact ⟨0, by omega, rfl, ⟨fun i hi => absurd hi (by omega)⟩, ⟨HB3.out⟩⟩
           case round =>
            obtain ⟨k, hk, rfl, HK, HB4⟩ := hrel
            cases gk with
            | succ gk =>
             have hlt : decide ((k : Int) < (c.length : Int)) = true := decide_eq_true (by omega)
             obtain ⟨ad, Ae, ce, rfl, z0, z1, hce, hCe⟩ := at_T43 (Kd.C_below HC.out HB4.out) (k : Int) (by omega) (by omega)
             rw [Int.toNat_natCast] at z0 z1
             have HCE := am hCe
             have HM := am (show okC2 (cieV (rd_T43 c (k : Int))) = true → ∀ i : Nat, i < k + 1 → okC2 (cieV (rd_T43 c (i : Int))) = true from fun hb i hi => by
               rcases Nat.lt_or_eq_of_le (Nat.le_of_lt_succ hi) with h1 | h1
               · exact HK.out i h1
               · rw [h1, hb])
             have HBAD := am (show ∀ hbad : okC2 (cieV (rd_T43 c (k : Int))) = false, checkV (c.map cieV) (f.map fdeV) = 130 from fun hbad => by
               unfold checkV
               rw [if_neg HNN.out]
               rw [if_neg (by rw [HA0.out]; decide)]
               rw [if_neg (by rw [HA1.out]; decide)]
               rw [if_neg (by rw [HA2.out]; decide)]
               rw [if_neg (by rw [HA3.out]; decide)]
               exact if_pos (all_bad (memCr c k (by omega)) hbad))
             clear hCe HK
             generalize rd_T43 c (k : Int) = x at z0 z1 HCE HM HBAD hce
             obtain ⟨Rr, hR⟩ : ∃ Rr, Cfa.rowsOf (Cfa.opl (Cfa.conv x.f1)) (Cfa.opl (Cfa.conv [])) 0 = Rr := ⟨_, rfl⟩
             have ho : okC2 (cieV x) = decide (Rr.2 = 0) := by rw [← hR]; rfl
             go_wp2_with fail
             refine (CfaR.rcheck_calls Ae ce x.f1 none 0 [] 0 wr HCE.out (Kd.C_nil _ _) Rr hR).mono ?_
             rintro e w' ⟨rfl, hB'⟩
             have HB' := am (below_then HB4.out HB4.out.size hB')
             clear hB' hR
             by_cases e0 : Rr.2 = 0
             ·
              have hx : (Rr.2 != 0) = false := by simp [e0]
              have hb : okC2 (cieV x) = true := by rw [ho, decide_eq_true e0]
              go_wp2
              go_roundg gk
              case measure => omega
              case rel => exact ⟨k + 1, by omega, by go_num, ⟨HM.out hb⟩, ⟨HB'.out⟩⟩
             have hx : (Rr.2 != 0) = true := by simp [e0]
             have hb : okC2 (cieV x) = false := by rw [ho, decide_eq_false e0]
             go_wp2
             go_ret
             exact ⟨by rw [HBAD.out hb]; rfl, HB'.out⟩
            | zero =>
             have hlt : decide ((k : Int) < (c.length : Int)) = false := decide_eq_false (by omega)
             have HA4 : Aside0 ((c.map cieV).all okC2 = true) := ⟨all_Cr (fun i hi => HK.out i (by omega))⟩
             have hltn4 : decide (k < c.length) = false := decide_eq_false (by omega)
             clear HK hlt
             go_wp2
             try rw [hltn0]
             try rw [hltn1]
             try rw [hltn2]
             try rw [hltn3]
             try rw [hltn4]
             go_loopg [11] f.length (fun kq v11 wr => ∃ k : Nat, k + kq = f.length ∧ v11 = .int .i64 (k : Int) ∧ Aside0 (∀ i : Nat, i < k → okF2 (c.map cieV) (fdeV (rd_T61 f (i : Int))) = true) ∧ Aside0 (Below w.heap.size w wr))
             case atStart => exact ⟨0, by omega, rfl, ⟨fun i hi => absurd hi (by omega)⟩, ⟨HB4.out⟩⟩
             case round =>
              obtain ⟨k, hk, rfl, HK, HB5⟩ := hrel
              cases gk with
              | succ gk =>
               have hlt : decide ((k : Int) < (f.length : Int)) = true := decide_eq_true (by omega)
               obtain ⟨ad, Ae, ce, rfl, z0, z1, z2, z3, hce, hCe⟩ := at_T61 (Kd.C_below HF.out HB5.out) (k : Int) (by omega) (by omega)
               rw [Int.toNat_natCast] at z0 z1 z2 z3
               have HCE := am hCe
               have HM := am (show okF2 (c.map cieV) (fdeV (rd_T61 f (k : Int))) = true → ∀ i : Nat, i < k + 1 → okF2 (c.map cieV) (fdeV (rd_T61 f (i : Int))) = true from fun hb i hi => by
                 rcases Nat.lt_or_eq_of_le (Nat.le_of_lt_succ hi) with h1 | h1
                 · exact HK.out i h1
                 · rw [h1, hb])
               have HBAD := am (show ∀ hbad : okF2 (c.map cieV) (fdeV (rd_T61 f (k : Int))) = false, checkV (c.map cieV) (f.map fdeV) = 130 from fun hbad => by
                 unfold checkV
                 rw [if_neg HNN.out]
                 rw [if_neg (by rw [HA0.out]; decide)]
                 rw [if_neg (by rw [HA1.out]; decide)]
                 rw [if_neg (by rw [HA2.out]; decide)]
                 rw [if_neg (by rw [HA3.out]; decide)]
                 rw [if_neg (by rw [HA4.out]; decide)]
                 exact if_pos (all_bad (memFr f k (by omega)) hbad))
               have hok := List.all_eq_true.1 HA3.out _ (memFr f k (by omega))
               clear hCe HK
               generalize rd_T61 f (k : Int) = x at z0 z1 z2 z3 HCE HM HBAD hce hok
               have hok : (decide (0 ≤ x.f0) && decide (x.f0 < c.length) && !farB x.f1 && decide (0 ≤ x.f2) && decide (x.f2 ≤ 1048576)) = true := by rw [List.length_map] at hok; exact hok
               simp only [Bool.and_eq_true, decide_eq_true_eq] at hok
               obtain ⟨⟨⟨⟨o0, o1⟩, _⟩, _⟩, _⟩ := hok
               obtain ⟨adc, Ac, cc, rfl, y0, y1, hcc, hCc⟩ := at_T43 (Kd.C_below HC.out HB5.out) x.f0 o0 o1
               have HCC := am hCc
               obtain ⟨Rr, hR⟩ : ∃ Rr, Cfa.rowsOf (Cfa.opl (Cfa.conv (rd_T43 c x.f0).f1)) (Cfa.opl (Cfa.conv x.f3)) x.f2 = Rr := ⟨_, rfl⟩
               have ho : okF2 (c.map cieV) (fdeV x) = decide (Rr.2 = 0) := by
                obtain ⟨m, hm⟩ : ∃ m : Nat, x.f0 = (m : Int) := ⟨x.f0.toNat, by omega⟩
                unfold okF2
                rw [show (fdeV x).f0 = x.f0 from rfl, ← hR, hm, rd_cieV c m (by omega)]
                rfl
               generalize rd_T43 c x.f0 = y at y0 y1 hcc HCC hR
               clear hCc y0 z1
               go_upto_region 30 with fail
               refine start_ (n := 21) (S := fun u => u.cell? (ad.add (k * 4)) = some (.int .i64 x.f0) ∧ u.cell? ⟨(ad.add (k * 4)).block, (ad.add (k * 4)).off + 3, none⟩ = some (.slice Ae x.f3.length ce) ∧ u.cell? ⟨(ad.add (k * 4)).block, (ad.add (k * 4)).off + 2, none⟩ = some (.int .i64 x.f2) ∧ u.cell? ⟨(adc.add (x.f0.toNat * 2)).block, (adc.add (x.f0.toNat * 2)).off + 1, none⟩ = some (.slice Ac y.f1.length cc)) (ds := [19]) (bm 21 0) (by kernel_rfl) rfl rfl ?_ (fun hHeld => ?_)
               case refine_1 => exact ⟨z0, z3, z2, y1⟩
               refine pure_ (i := 0) (N := some 131) (v := ?_) (a' := ?_) (bm 21 1) rfl rfl (by kernel_rfl) (fun _ _ _ h => h) (Or.inl ⟨by rfl, ?_⟩) ?_ ?_
               rotate_left
               ·
                intro u
                go_simp
                with_reducible rfl
               rotate_left
               ·
                simp only [pz]
                rfl
               refine pure_ (i := 1) (N := some 132) (v := ?_) (a' := ?_) (bm 21 3) rfl rfl (by kernel_rfl) (fun _ _ _ h => h) (Or.inl ⟨by rfl, ?_⟩) ?_ ?_
               rotate_left
               ·
                intro u
                go_simp
                with_reducible rfl
               rotate_left
               ·
                simp only [pz]
                rfl
               refine pure_ (i := 2) (N := some 133) (v := ?_) (a' := ?_) (bm 21 7) rfl rfl (by kernel_rfl) (fun _ _ _ h => h) (Or.inl ⟨by rfl, ?_⟩) ?_ ?_
               rotate_left
               ·
                intro u
                go_simp
                with_reducible rfl
               rotate_left
               ·
                simp only [pz]
                rfl
               refine pure_ (i := 3) (N := some 134) (v := ?_) (a' := ?_) (bm 21 15) rfl rfl (by kernel_rfl) (fun _ _ _ h => h) (Or.inl ⟨by rfl, ?_⟩) ?_ ?_
               rotate_left
               ·
                intro u
                go_simp
                with_reducible rfl
               rotate_left
               ·
                simp only [pz]
                rfl
               refine pure_ (i := 4) (N := some 135) (v := ?_) (a' := ?_) (bm 21 31) rfl rfl (by kernel_rfl) (fun _ _ _ h => h) (Or.inl ⟨by rfl, ?_⟩) ?_ ?_
               rotate_left
               ·
                intro u
                go_simp
                with_reducible rfl
               rotate_left
               ·
                simp only [pz]
                rfl
               refine take_ (i := 5) (N := some 136) (v := ?_) (a' := ?_) (bm 21 63) rfl rfl (by kernel_rfl) (fun _ _ _ h => h) (Or.inl ⟨by rfl, ?_⟩) hHeld ?_ ?_
               rotate_left
               ·
                rintro u ⟨s0, s1, s2, s3⟩
                go_simp
                with_reducible rfl
               rotate_left
               ·
                simp only [pz]
                rfl
               refine pure_ (i := 6) (N := some 137) (v := ?_) (a' := ?_) (bm 21 127) rfl rfl (by kernel_rfl) (fun _ _ _ h => h) (Or.inl ⟨by rfl, ?_⟩) ?_ ?_
               rotate_left
               ·
                intro u
                go_simp
                with_reducible rfl
               rotate_left
               ·
                simp only [pz]
                rfl
               refine pure_ (i := 7) (N := some 138) (v := ?_) (a' := ?_) (bm 21 255) rfl rfl (by kernel_rfl) (fun _ _ _ h => h) (Or.inl ⟨by rfl, ?_⟩) ?_ ?_
               rotate_left
               ·
                intro u
                go_simp
                with_reducible rfl
               rotate_left
               ·
                simp only [pz]
                rfl
               refine take_ (i := 8) (N := some 139) (v := ?_) (a' := ?_) (bm 21 511) rfl rfl (by kernel_rfl) (fun _ _ _ h => h) (Or.inl ⟨by rfl, ?_⟩) hHeld ?_ ?_
               rotate_left
               ·
                rintro u ⟨s0, s1, s2, s3⟩
                go_simp
                with_reducible rfl
               rotate_left
               ·
                simp only [pz]
                rfl
               refine pure_ (i := 9) (N := some 140) (v := ?_) (a' := ?_) (bm 21 1023) rfl rfl (by kernel_rfl) (fun _ _ _ h => h) (Or.inl ⟨by rfl, ?_⟩) ?_ ?_
               rotate_left
               ·
                intro u
                go_simp
                with_reducible rfl
               rotate_left
               ·
                simp only [pz]
                rfl
               refine pure_ (i := 10) (N := some 141) (v := ?_) (a' := ?_) (bm 21 2047) rfl rfl (by kernel_rfl) (fun _ _ _ h => h) (Or.inl ⟨by rfl, ?_⟩) ?_ ?_
               rotate_left
               ·
                intro u
                go_simp
                with_reducible rfl
               rotate_left
               ·
                simp only [pz]
                rfl
               refine pure_ (i := 11) (N := some 142) (v := ?_) (a' := ?_) (bm 21 4095) rfl rfl (by kernel_rfl) (fun _ _ _ h => h) (Or.inl ⟨by rfl, ?_⟩) ?_ ?_
               rotate_left
               ·
                intro u
                go_simp
                with_reducible rfl
               rotate_left
               ·
                simp only [pz]
                rfl
               refine pure_ (i := 12) (N := some 143) (v := ?_) (a' := ?_) (bm 21 8191) rfl rfl (by kernel_rfl) (fun _ _ _ h => h) (Or.inl ⟨by rfl, ?_⟩) ?_ ?_
               rotate_left
               ·
                intro u
                go_simp
                with_reducible rfl
               rotate_left
               ·
                simp only [pz]
                rfl
               refine take_ (i := 13) (N := some 144) (v := ?_) (a' := ?_) (bm 21 16383) rfl rfl (by kernel_rfl) (fun _ _ _ h => h) (Or.inl ⟨by rfl, ?_⟩) hHeld ?_ ?_
               rotate_left
               ·
                rintro u ⟨s0, s1, s2, s3⟩
                go_simp
                with_reducible rfl
               rotate_left
               ·
                simp only [pz]
                rfl
               refine pure_ (i := 14) (N := some 145) (v := ?_) (a' := ?_) (bm 21 32767) rfl rfl (by kernel_rfl) (fun _ _ _ h => h) (Or.inl ⟨by rfl, ?_⟩) ?_ ?_
               rotate_left
               ·
                intro u
                go_simp
                with_reducible rfl
               rotate_left
               ·
                simp only [pz]
                rfl
               refine pure_ (i := 15) (N := some 146) (v := ?_) (a' := ?_) (bm 21 65535) rfl rfl (by kernel_rfl) (fun _ _ _ h => h) (Or.inl ⟨by rfl, ?_⟩) ?_ ?_
               rotate_left
               ·
                intro u
                go_simp
                with_reducible rfl
               rotate_left
               ·
                simp only [pz]
                rfl
               refine pure_ (i := 16) (N := some 147) (v := ?_) (a' := ?_) (bm 21 131071) rfl rfl (by kernel_rfl) (fun _ _ _ h => h) (Or.inl ⟨by rfl, ?_⟩) ?_ ?_
               rotate_left
               ·
                intro u
                go_simp
                with_reducible rfl
               rotate_left
               ·
                simp only [pz]
                rfl
               refine pure_ (i := 17) (N := some 148) (v := ?_) (a' := ?_) (bm 21 262143) rfl rfl (by kernel_rfl) (fun _ _ _ h => h) (Or.inl ⟨by rfl, ?_⟩) ?_ ?_
               rotate_left
               ·
                intro u
                go_simp
                with_reducible rfl
               rotate_left
               ·
                simp only [pz]
                rfl
               refine take_ (i := 18) (N := some 149) (v := ?_) (a' := ?_) (bm 21 524287) rfl rfl (by kernel_rfl) (fun _ _ _ h => h) (Or.inl ⟨by rfl, ?_⟩) hHeld ?_ ?_
               rotate_left
               ·
                rintro u ⟨s0, s1, s2, s3⟩
                go_simp
                with_reducible rfl
               rotate_left
               ·
                simp only [pz]
                rfl
               refine last_ (i := 19) (N := some 150) (bm 21 1048575) rfl rfl (by kernel_rfl) (by decide) (fun K hK => ?_)
               refine call_ 34 #[.slice Ac y.f1.length cc, .slice Ae x.f3.length ce, .int .i64 x.f2] (by rfl) rfl (by go_simp) ?_
               refine (CfaR.rcheck_calls Ac cc y.f1 Ae ce x.f3 x.f2 _ (Kd.C_drew HCC.out) (Kd.C_drew HCE.out) Rr hR).mono ?_
               rintro e w' ⟨rfl, hB'⟩
               refine ⟨_, rfl, ?_⟩
               have HB' := am (below_then (below_drew HB5.out) (below_drew HB5.out).size hB')
               clear hB' hR hHeld
               refine hK.out _ _ ?_
               clear hK K
               refine norm_ (a' := ?_) ?_ ?_
               rotate_left
               ·
                show Act.put _ (some 150) _ = _
                simp only [pz]
                rfl
               refine pure_ (i := 20) (N := some 151) (v := ?_) (a' := ?_) (bm 21 2097151) rfl rfl (by kernel_rfl) (fun _ _ _ h => h) (Or.inl ⟨by rfl, ?_⟩) ?_ ?_
               rotate_left
               ·
                intro u
                go_simp
                with_reducible rfl
               rotate_left
               ·
                simp only [pz]
                rfl
               refine done_ (by kernel_rfl) ?_
               by_cases e0 : Rr.2 = 0
               ·
                have hx : (Rr.2 != 0) = false := by simp [e0]
                have hb : okF2 (c.map cieV) (fdeV x) = true := by rw [ho, decide_eq_true e0]
                go_wp2
                go_roundg gk
                case measure => omega
                case rel => exact ⟨k + 1, by omega, by go_num, ⟨HM.out hb⟩, ⟨HB'.out⟩⟩
               have hx : (Rr.2 != 0) = true := by simp [e0]
               have hb : okF2 (c.map cieV) (fdeV x) = false := by rw [ho, decide_eq_false e0]
               go_wp2
               go_ret
               exact ⟨by rw [HBAD.out hb]; rfl, HB'.out⟩
              | zero =>
               have hlt : decide ((k : Int) < (f.length : Int)) = false := decide_eq_false (by omega)
               have HA5 : Aside0 ((f.map fdeV).all (okF2 (c.map cieV)) = true) := ⟨all_Fr (fun i hi => HK.out i (by omega))⟩
               have hltn5 : decide (k < f.length) = false := decide_eq_false (by omega)
               clear HK hlt
               go_wp2
               go_ret
               refine ⟨?_, HB5.out⟩
               unfold checkV
               rw [if_neg HNN.out, HA0.out, HA1.out, HA2.out, HA3.out, HA4.out, HA5.out]
               rfl
end Go.Proofs.Ytfgfnflhdabmcaa.Eh
end
section
namespace Go.Proofs.Ytfgfnflhdabmcaa.G
open Go.RowKit Go.Proofs.YtfgfnflhdabmcaaW.PrintWords Go.Proofs.YtfgfnflhdabmcaaW.PrintLast Go.Proofs.YtfgfnflhdabmcaaW.PrintMore
attribute [local go_sem] max2_int min2_int max_two min_two max_three min_three max_four min_four
def gangwayref14_Check.f (k : Nat) (l0 : List S43) (l1 : List S61) : Option Int :=
  if l0.all (fun x => decide (-9223372036854775808 ≤ x.f0) && decide (x.f0 ≤ 9223372036854775807)) = true then some (Eh.checkV (l0.map Eh.cieV) (l1.map Eh.fdeV)) else none
theorem gangwayref14_Check.calls (k : Nat) (A0 : Option Addr) (c0 : Nat) (l0 : List S43) (A1 : Option Addr) (c1 : Nat) (l1 : List S61) (r : Int) (w : World) (hr0 : Kd.C k43 w A0 l0.length l0) (hc0 : l0.length ≤ c0) (hr1 : Kd.C k61 w A1 l1.length l1) (hc1 : l1.length ≤ c1) (h : gangwayref14_Check.f k l0 l1 = some r) :
    Calls Try.prog 13 #[.slice A0 l0.length c0, .slice A1 l1.length c1] w fun e w' => e = .returned (.int .i64 r) ∧ Below w.heap.size w w' := by
 unfold gangwayref14_Check.f at h
 split at h
 case isFalse => cases h
 rename_i hb
 obtain rfl := Option.some.inj h
 exact Eh.rcheck_calls A0 c0 l0 A1 c1 l1 w hr0 hc0 hr1 hc1 (fun x hx => by
   have := List.all_eq_true.1 hb x hx
   simpa using this)
def gangwayref13_joined.f (l0 : List Int) (l1 : List Int) : Option (List Int) := (some (([] : List Int) : List Int)).bind fun y101 => (if y101.length + l0.length < 140737488355328 then ((some (y101 ++ l0 : List Int)).bind fun y104 => (if y104.length + l1.length < 140737488355328 then (some (y104 ++ l1)) else (none))) else (none))
set_option maxHeartbeats 8000000 in
theorem gangwayref13_joined.calls (A0 : Option Addr) (c0 : Nat) (l0 : List Int) (A1 : Option Addr) (c1 : Nat) (l1 : List Int) (r : List Int) (w : World) (hr0 : Kd.C (Kd.int .u8) w A0 l0.length l0) (hc0 : l0.length ≤ c0) (hr1 : Kd.C (Kd.int .u8) w A1 l1.length l1) (hc1 : l1.length ≤ c1) (h : gangwayref13_joined.f l0 l1 = some r) :
    Calls Try.prog 92 #[.slice A0 l0.length c0, .slice A1 l1.length c1] w fun e w' => ∃ v0_ : Value, e = .returned (v0_) ∧ Kd.R (Kd.int .u8) 5 w' w.heap.size (fun _ => True) v0_ r ∧ Below w.heap.size w w' := by
 have HR0 := am hr0
 have HC0 := am hc0
 clear hr0 hc0
 have HR1 := am hr1
 have HC1 := am hc1
 clear hr1 hc1
 have HB := am (Below.refl w.heap.size w)
 have H : ((some (([] : List Int) : List Int)).bind fun y101 => (if y101.length + l0.length < 140737488355328 then ((some (y101 ++ l0 : List Int)).bind fun y104 => (if y104.length + l1.length < 140737488355328 then (some (y104 ++ l1)) else (none))) else (none))) = some r := h
 clear h
 obtain ⟨y101, hy101⟩ : ∃ y_ : List Int, y_ = (([] : List Int)) := ⟨_, rfl⟩
 replace H : (if y101.length + l0.length < 140737488355328 then ((some (y101 ++ l0 : List Int)).bind fun y104 => (if y104.length + l1.length < 140737488355328 then (some (y104 ++ l1)) else (none))) else (none)) = some r := by first | (rw [hy101]; with_reducible exact H) | (have H2_ := (Option.bind_some _ _).symm.trans H; rw [hy101]; with_reducible exact H2_)
 have Ny101 := am hy101
 clear hy101
 by_cases c3 : y101.length + l0.length < 140737488355328
 rotate_left
 ·
  rw [if_neg c3] at H
  exact absurd H (by simp)
 rw [if_pos c3] at H
 have LMc3 := am c3
 clear c3
 obtain ⟨y104, hy104⟩ : ∃ y_ : List Int, y_ = (y101 ++ l0) := ⟨_, rfl⟩
 replace H : (if y104.length + l1.length < 140737488355328 then (some (y104 ++ l1)) else (none)) = some r := by first | (rw [hy104]; with_reducible exact H) | (have H2_ := (Option.bind_some _ _).symm.trans H; rw [hy104]; with_reducible exact H2_)
 have Ny104 := am hy104
 clear hy104
 by_cases c4 : y104.length + l1.length < 140737488355328
 rotate_left
 ·
  rw [if_neg c4] at H
  exact absurd H (by simp)
 rw [if_pos c4] at H
 have LMc4 := am c4
 clear c4
 obtain ⟨y107, hy107⟩ : ∃ y_ : List Int, y_ = (y104 ++ l1) := ⟨_, rfl⟩
 replace H : (some y107) = some r := by first | (rw [hy107]; with_reducible exact H) | (have H2_ := (Option.bind_some _ _).symm.trans H; rw [hy107]; with_reducible exact H2_)
 have Ny107 := am hy107
 clear hy107
 obtain rfl := Option.some.inj H
 go_enter Try.func92, Try.ntmps92
 go_wp2_with (first | ((with_reducible refine gate_dst (N := 5) rfl ?_); refine Kd.R_lit (Kd.int .u8) _ 5 ?hg (N := 5) ?hd (xs := ([] : List Int)) (inner := []) (ok := fun _ => True) (okp := fun _ => True) ?hr ?hp (fun _ hk => hk) trivial (Below.refl _ _) (Nat.le_refl _) (by simp) ?_; (case hd => rfl); (case hg => rfl); (case hr => go_simp; try rfl); (case hp => exact (Reps.none _ _)); intro v102 w5 ho6 hb hg_ hnew_; clear hg_ hnew_; (first | rw [← Ny101.out] at ho6 | (simp only [Int.reduceToNat] at ho6; rw [← Ny101.out] at ho6)); refine mv2 (am (Kd.R_lower ho6 (below_size (by exact bl_o HB.out)))) (am (below_step (by exact bl_o HB.out) hb)) ?_; clear HB; intro HO103 HB; clear hb ho6) | ((with_reducible refine gate_builtin (b := .append) (xs := #[.tmp 5, .tmp 6]) rfl ?_); at_builtin; refine Kd.R_append_rows (Kd.int .u8) (w0 := w) w.heap.size rfl (.tmp 5) (.tmp 6) 28 5 (.int .u8 0) 1 rfl Try.underlying28 info5 rfl (by decide) (by omega) v102 y101 l0 _ _ _ (fun _ => True) (fun _ => False) rfl rfl ?aO ?aR (fun _ _ h => h) (fun _ h => h.elim) ?aF ?aB ?aS ?aL ?_; (case aR => exact Kd.C_o (Kd.C_below HR0.out HB.out)); (case aB => exact (by exact bl_o HB.out)); (case aF => exact (fun _ _ => trivial)); (case aO => exact (Kd.R_o HO103.out)); (case aS => exact (below_size (by exact bl_o HB.out))); (case aL => have := LMc3.out; omega); intro v105 w7 ho hb hg hat; rw [← Ny104.out] at ho; refine mv2 (am (hb)) (am (ho)) ?_; clear HB HO103; intro HB HO106; clear ho hb hg hat) | ((with_reducible refine gate_builtin (b := .append) (xs := #[.tmp 7, .tmp 8]) rfl ?_); at_builtin; refine Kd.R_append_rows (Kd.int .u8) (w0 := w) w.heap.size rfl (.tmp 7) (.tmp 8) 28 5 (.int .u8 0) 1 rfl Try.underlying28 info5 rfl (by decide) (by omega) v105 y104 l1 _ _ _ (fun _ => True) (fun _ => False) rfl rfl ?aO ?aR (fun _ _ h => h) (fun _ h => h.elim) ?aF ?aB ?aS ?aL ?_; (case aR => exact Kd.C_o (Kd.C_below HR1.out HB.out)); (case aB => exact (by exact bl_o HB.out)); (case aF => exact (fun _ _ => trivial)); (case aO => exact (Kd.R_o HO106.out)); (case aS => exact (below_size (by exact bl_o HB.out))); (case aL => have := LMc4.out; omega); intro v108 w8 ho hb hg hat; rw [← Ny107.out] at ho; refine mv2 (am (hb)) (am (ho)) ?_; clear HB HO106; intro HB HO109; clear ho hb hg hat))
 go_ret
 exact ⟨_, rfl, by (with_reducible repeat (first | apply Kd.R_alloc | apply Kd.R_drewN | apply Kd.R_drew)); exact HO109.out, by exact bl_g HB.out⟩
def gangwayref13_advance.f (k : Nat) (a0 : Int) : Option (List Int) := if a0 < 64 then (some (([(wrap64 (64 + a0)) % 256] : List Int))) else (if a0 < 256 then ((gangwayref01_Put.f k a0 1).bind fun bt104 => ((gangwayref13_joined.f (([2] : List Int)) bt104.1).bind fun t111 => (some t111))) else (if a0 < 65536 then ((gangwayref01_Put.f k a0 2).bind fun bt114 => ((gangwayref13_joined.f (([3] : List Int)) bt114.1).bind fun t121 => (some t121))) else ((gangwayref01_Put.f k a0 4).bind fun bt124 => ((gangwayref13_joined.f (([4] : List Int)) bt124.1).bind fun t131 => (some t131)))))
set_option maxHeartbeats 8000000 in
theorem gangwayref13_advance.calls (k : Nat) (a0 : Int) (r : List Int) (w : World) (h : gangwayref13_advance.f k a0 = some r) :
    Calls Try.prog 91 #[.int .i64 a0] w fun e w' => ∃ v0_ : Value, e = .returned (v0_) ∧ Kd.R (Kd.int .u8) 5 w' w.heap.size (fun _ => True) v0_ r ∧ Below w.heap.size w w' := by
 have HB := am (Below.refl w.heap.size w)
 have H : (if a0 < 64 then (some (([(wrap64 (64 + a0)) % 256] : List Int))) else (if a0 < 256 then ((gangwayref01_Put.f k a0 1).bind fun bt104 => ((gangwayref13_joined.f (([2] : List Int)) bt104.1).bind fun t111 => (some t111))) else (if a0 < 65536 then ((gangwayref01_Put.f k a0 2).bind fun bt114 => ((gangwayref13_joined.f (([3] : List Int)) bt114.1).bind fun t121 => (some t121))) else ((gangwayref01_Put.f k a0 4).bind fun bt124 => ((gangwayref13_joined.f (([4] : List Int)) bt124.1).bind fun t131 => (some t131)))))) = some r := h
 clear h
 by_cases c2 : a0 < 64
 ·
  rw [if_pos c2] at H
  have c2b0 : decide (a0 < 64) = true := decide_eq_true c2
  clear c2
  obtain ⟨y101, hy101⟩ : ∃ y_ : List Int, y_ = (([(wrap64 (64 + a0)) % 256] : List Int)) := ⟨_, rfl⟩
  replace H : (some y101) = some r := by first | (rw [hy101]; with_reducible exact H) | (have H2_ := (Option.bind_some _ _).symm.trans H; rw [hy101]; with_reducible exact H2_)
  have Ny101 := am hy101
  clear hy101
  obtain rfl := Option.some.inj H
  go_enter Try.func91, Try.ntmps91
  go_wp2_with (first | ((with_reducible refine gate_dst (N := 12) rfl ?_); refine Kd.R_lit (Kd.int .u8) _ 5 ?hg (N := 12) ?hd (xs := ([(wrap64 (64 + a0)) % 256] : List Int)) (inner := [.int .u8 ((wrap64 (64 + a0)) % 256)]) (ok := fun _ => True) (okp := fun _ => True) ?hr ?hp (fun _ hk => hk) trivial (Below.refl _ _) (Nat.le_refl _) (by simp) ?_; (case hd => rfl); (case hg => rfl); (case hr => go_simp; try rfl); (case hp => exact (Reps.one (show Kd.M (Kd.int .u8) _ _ _ ((wrap64 (64 + a0)) % 256) [.int .u8 ((wrap64 (64 + a0)) % 256)] from rfl) (Reps.none _ _))); intro v102 w3 ho4 hb hg_ hnew_; clear hg_ hnew_; (first | rw [← Ny101.out] at ho4 | (simp only [Int.reduceToNat] at ho4; rw [← Ny101.out] at ho4)); refine mv2 (am (Kd.R_lower ho4 (below_size (by exact bl_o HB.out)))) (am (below_step (by exact bl_o HB.out) hb)) ?_; clear HB; intro HO103 HB; clear hb ho4))
  go_ret
  exact ⟨_, rfl, by (with_reducible repeat (first | apply Kd.R_alloc | apply Kd.R_drewN | apply Kd.R_drew)); exact HO103.out, by exact bl_g HB.out⟩
 rw [if_neg c2] at H
 have c2b0 : decide (a0 < 64) = false := decide_eq_false c2
 clear c2
 by_cases c5 : a0 < 256
 ·
  rw [if_pos c5] at H
  have c5b0 : decide (a0 < 256) = true := decide_eq_true c5
  clear c5
  replace H := Option.bind_eq_some_iff.mp H
  obtain ⟨⟨t104, t105⟩, A60, H⟩ := H
  replace H : ((gangwayref13_joined.f (([2] : List Int)) t104).bind fun t111 => (some t111)) = some r := H
  have A6 := am A60
  clear A60
  obtain ⟨y108, hy108⟩ : ∃ y_ : List Int, y_ = (([2] : List Int)) := ⟨_, rfl⟩
  replace H : ((gangwayref13_joined.f y108 t104).bind fun t111 => (some t111)) = some r := by first | (rw [hy108]; with_reducible exact H) | (have H2_ := (Option.bind_some _ _).symm.trans H; rw [hy108]; with_reducible exact H2_)
  have Ny108 := am hy108
  clear hy108
  replace H := Option.bind_eq_some_iff.mp H
  obtain ⟨t111, A70, H⟩ := H
  replace H : (some t111) = some r := H
  have A7 := am A70
  clear A70
  obtain rfl := Option.some.inj H
  go_enter Try.func91, Try.ntmps91
  go_wp2_with (first | ((with_reducible refine gate_callee (f := 47) rfl ?_); refine goesL_ (some 20) rfl rfl Try.func47 (by kernel_rfl) rfl #[.int .i64 a0, .int .i64 1] rfl (by simp only [ml]; try rfl) ?_; (with_reducible refine (gangwayref01_Put.calls k a0 1 t104 t105 _ A6.out).mono ?_); rintro e w8 ⟨v106, rfl, ho0, hb⟩; refine ⟨_, rfl, ?_⟩; refine mv2 (am (Kd.R_lower ho0 (below_size (by exact bl_o HB.out)))) (am (below_step (by exact bl_o HB.out) hb)) ?_; clear HB; intro HO107 HB) | ((with_reducible refine gate_dst (N := 25) rfl ?_); refine Kd.R_lit (Kd.int .u8) _ 5 ?hg (N := 25) ?hd (xs := ([2] : List Int)) (inner := [.int .u8 2]) (ok := fun _ => True) (okp := fun _ => True) ?hr ?hp (fun _ hk => hk) trivial (Below.refl _ _) (Nat.le_refl _) (by simp) ?_; (case hd => rfl); (case hg => rfl); (case hr => go_simp; try rfl); (case hp => exact (Reps.one (show Kd.M (Kd.int .u8) _ _ _ 2 [.int .u8 2] from rfl) (Reps.none _ _))); intro v109 w9 ho10 hb hg_ hnew_; clear hg_ hnew_; (first | rw [← Ny108.out] at ho10 | (simp only [Int.reduceToNat] at ho10; rw [← Ny108.out] at ho10)); refine mv3 (am (Kd.R_elder' (Kd.R_o HO107.out) (Kd.R_base ho10) hb)) (am (Kd.R_lower (Kd.R_new' ho10 (Kd.R_lt (Kd.R_o HO107.out))) (below_size (by exact bl_o HB.out)))) (am (below_step (by exact bl_o HB.out) hb)) ?_; clear HO107 HB; intro HO107 HO110 HB; clear hb ho10; obtain ⟨Ao11, co11, eo11⟩ := Kd.R_slice HO110.out; subst eo11; obtain ⟨Ao12, co12, eo12⟩ := Kd.R_slice HO107.out; subst eo12) | ((with_reducible refine gate_callee (f := 92) rfl ?_); refine goesL_ (some 27) rfl rfl Try.func92 (by kernel_rfl) rfl #[.slice Ao11 y108.length co11, .slice Ao12 t104.length co12] rfl (by simp only [ml]; try rfl) ?_; (with_reducible refine (gangwayref13_joined.calls _ _ y108 _ _ t104 t111 _ ?side1 ?side2 ?side3 ?side4 A7.out).mono ?_); (case side1 => exact Kd.C_o ((Kd.R_reads' HO110.out).2.2)); (case side2 => exact (Kd.R_reads' HO110.out).2.1); (case side3 => exact Kd.C_o ((Kd.R_reads' HO107.out).2.2)); (case side4 => exact (Kd.R_reads' HO107.out).2.1); rintro e w13 ⟨v112, rfl, ho0, hb⟩; refine ⟨_, rfl, ?_⟩; refine mv4 (am (Kd.R_elder' (Kd.R_o HO107.out) (Kd.R_base ho0) hb)) (am (Kd.R_elder' (Kd.R_o HO110.out) (Kd.R_base ho0) hb)) (am (Kd.R_lower (Kd.R_new' (Kd.R_new' ho0 (Kd.R_lt (Kd.R_o HO107.out))) (Kd.R_lt (Kd.R_o HO110.out))) (below_size (by exact bl_o HB.out)))) (am (below_step (by exact bl_o HB.out) hb)) ?_; clear HO107 HO110 HB; intro HO107 HO110 HO113 HB))
  go_ret
  exact ⟨_, rfl, by (with_reducible repeat (first | apply Kd.R_alloc | apply Kd.R_drewN | apply Kd.R_drew)); exact Kd.R_mono HO113.out (fun _ hk => trivial), by exact bl_g HB.out⟩
 rw [if_neg c5] at H
 have c5b0 : decide (a0 < 256) = false := decide_eq_false c5
 clear c5
 by_cases c14 : a0 < 65536
 ·
  rw [if_pos c14] at H
  have c14b0 : decide (a0 < 65536) = true := decide_eq_true c14
  clear c14
  replace H := Option.bind_eq_some_iff.mp H
  obtain ⟨⟨t114, t115⟩, A150, H⟩ := H
  replace H : ((gangwayref13_joined.f (([3] : List Int)) t114).bind fun t121 => (some t121)) = some r := H
  have A15 := am A150
  clear A150
  obtain ⟨y118, hy118⟩ : ∃ y_ : List Int, y_ = (([3] : List Int)) := ⟨_, rfl⟩
  replace H : ((gangwayref13_joined.f y118 t114).bind fun t121 => (some t121)) = some r := by first | (rw [hy118]; with_reducible exact H) | (have H2_ := (Option.bind_some _ _).symm.trans H; rw [hy118]; with_reducible exact H2_)
  have Ny118 := am hy118
  clear hy118
  replace H := Option.bind_eq_some_iff.mp H
  obtain ⟨t121, A160, H⟩ := H
  replace H : (some t121) = some r := H
  have A16 := am A160
  clear A160
  obtain rfl := Option.some.inj H
  go_enter Try.func91, Try.ntmps91
  go_wp2_with (first | ((with_reducible refine gate_callee (f := 47) rfl ?_); refine goesL_ (some 20) rfl rfl Try.func47 (by kernel_rfl) rfl #[.int .i64 a0, .int .i64 2] rfl (by simp only [ml]; try rfl) ?_; (with_reducible refine (gangwayref01_Put.calls k a0 2 t114 t115 _ A15.out).mono ?_); rintro e w17 ⟨v116, rfl, ho0, hb⟩; refine ⟨_, rfl, ?_⟩; refine mv2 (am (Kd.R_lower ho0 (below_size (by exact bl_o HB.out)))) (am (below_step (by exact bl_o HB.out) hb)) ?_; clear HB; intro HO117 HB) | ((with_reducible refine gate_dst (N := 25) rfl ?_); refine Kd.R_lit (Kd.int .u8) _ 5 ?hg (N := 25) ?hd (xs := ([3] : List Int)) (inner := [.int .u8 3]) (ok := fun _ => True) (okp := fun _ => True) ?hr ?hp (fun _ hk => hk) trivial (Below.refl _ _) (Nat.le_refl _) (by simp) ?_; (case hd => rfl); (case hg => rfl); (case hr => go_simp; try rfl); (case hp => exact (Reps.one (show Kd.M (Kd.int .u8) _ _ _ 3 [.int .u8 3] from rfl) (Reps.none _ _))); intro v119 w18 ho19 hb hg_ hnew_; clear hg_ hnew_; (first | rw [← Ny118.out] at ho19 | (simp only [Int.reduceToNat] at ho19; rw [← Ny118.out] at ho19)); refine mv3 (am (Kd.R_elder' (Kd.R_o HO117.out) (Kd.R_base ho19) hb)) (am (Kd.R_lower (Kd.R_new' ho19 (Kd.R_lt (Kd.R_o HO117.out))) (below_size (by exact bl_o HB.out)))) (am (below_step (by exact bl_o HB.out) hb)) ?_; clear HO117 HB; intro HO117 HO120 HB; clear hb ho19; obtain ⟨Ao20, co20, eo20⟩ := Kd.R_slice HO120.out; subst eo20; obtain ⟨Ao21, co21, eo21⟩ := Kd.R_slice HO117.out; subst eo21) | ((with_reducible refine gate_callee (f := 92) rfl ?_); refine goesL_ (some 27) rfl rfl Try.func92 (by kernel_rfl) rfl #[.slice Ao20 y118.length co20, .slice Ao21 t114.length co21] rfl (by simp only [ml]; try rfl) ?_; (with_reducible refine (gangwayref13_joined.calls _ _ y118 _ _ t114 t121 _ ?side1 ?side2 ?side3 ?side4 A16.out).mono ?_); (case side1 => exact Kd.C_o ((Kd.R_reads' HO120.out).2.2)); (case side2 => exact (Kd.R_reads' HO120.out).2.1); (case side3 => exact Kd.C_o ((Kd.R_reads' HO117.out).2.2)); (case side4 => exact (Kd.R_reads' HO117.out).2.1); rintro e w22 ⟨v122, rfl, ho0, hb⟩; refine ⟨_, rfl, ?_⟩; refine mv4 (am (Kd.R_elder' (Kd.R_o HO117.out) (Kd.R_base ho0) hb)) (am (Kd.R_elder' (Kd.R_o HO120.out) (Kd.R_base ho0) hb)) (am (Kd.R_lower (Kd.R_new' (Kd.R_new' ho0 (Kd.R_lt (Kd.R_o HO117.out))) (Kd.R_lt (Kd.R_o HO120.out))) (below_size (by exact bl_o HB.out)))) (am (below_step (by exact bl_o HB.out) hb)) ?_; clear HO117 HO120 HB; intro HO117 HO120 HO123 HB))
  go_ret
  exact ⟨_, rfl, by (with_reducible repeat (first | apply Kd.R_alloc | apply Kd.R_drewN | apply Kd.R_drew)); exact Kd.R_mono HO123.out (fun _ hk => trivial), by exact bl_g HB.out⟩
 rw [if_neg c14] at H
 have c14b0 : decide (a0 < 65536) = false := decide_eq_false c14
 clear c14
 replace H := Option.bind_eq_some_iff.mp H
 obtain ⟨⟨t124, t125⟩, A230, H⟩ := H
 replace H : ((gangwayref13_joined.f (([4] : List Int)) t124).bind fun t131 => (some t131)) = some r := H
 have A23 := am A230
 clear A230
 obtain ⟨y128, hy128⟩ : ∃ y_ : List Int, y_ = (([4] : List Int)) := ⟨_, rfl⟩
 replace H : ((gangwayref13_joined.f y128 t124).bind fun t131 => (some t131)) = some r := by first | (rw [hy128]; with_reducible exact H) | (have H2_ := (Option.bind_some _ _).symm.trans H; rw [hy128]; with_reducible exact H2_)
 have Ny128 := am hy128
 clear hy128
 replace H := Option.bind_eq_some_iff.mp H
 obtain ⟨t131, A240, H⟩ := H
 replace H : (some t131) = some r := H
 have A24 := am A240
 clear A240
 obtain rfl := Option.some.inj H
 go_enter Try.func91, Try.ntmps91
 go_wp2_with (first | ((with_reducible refine gate_callee (f := 47) rfl ?_); refine goesL_ (some 20) rfl rfl Try.func47 (by kernel_rfl) rfl #[.int .i64 a0, .int .i64 4] rfl (by simp only [ml]; try rfl) ?_; (with_reducible refine (gangwayref01_Put.calls k a0 4 t124 t125 _ A23.out).mono ?_); rintro e w25 ⟨v126, rfl, ho0, hb⟩; refine ⟨_, rfl, ?_⟩; refine mv2 (am (Kd.R_lower ho0 (below_size (by exact bl_o HB.out)))) (am (below_step (by exact bl_o HB.out) hb)) ?_; clear HB; intro HO127 HB) | ((with_reducible refine gate_dst (N := 25) rfl ?_); refine Kd.R_lit (Kd.int .u8) _ 5 ?hg (N := 25) ?hd (xs := ([4] : List Int)) (inner := [.int .u8 4]) (ok := fun _ => True) (okp := fun _ => True) ?hr ?hp (fun _ hk => hk) trivial (Below.refl _ _) (Nat.le_refl _) (by simp) ?_; (case hd => rfl); (case hg => rfl); (case hr => go_simp; try rfl); (case hp => exact (Reps.one (show Kd.M (Kd.int .u8) _ _ _ 4 [.int .u8 4] from rfl) (Reps.none _ _))); intro v129 w26 ho27 hb hg_ hnew_; clear hg_ hnew_; (first | rw [← Ny128.out] at ho27 | (simp only [Int.reduceToNat] at ho27; rw [← Ny128.out] at ho27)); refine mv3 (am (Kd.R_elder' (Kd.R_o HO127.out) (Kd.R_base ho27) hb)) (am (Kd.R_lower (Kd.R_new' ho27 (Kd.R_lt (Kd.R_o HO127.out))) (below_size (by exact bl_o HB.out)))) (am (below_step (by exact bl_o HB.out) hb)) ?_; clear HO127 HB; intro HO127 HO130 HB; clear hb ho27; obtain ⟨Ao28, co28, eo28⟩ := Kd.R_slice HO130.out; subst eo28; obtain ⟨Ao29, co29, eo29⟩ := Kd.R_slice HO127.out; subst eo29) | ((with_reducible refine gate_callee (f := 92) rfl ?_); refine goesL_ (some 27) rfl rfl Try.func92 (by kernel_rfl) rfl #[.slice Ao28 y128.length co28, .slice Ao29 t124.length co29] rfl (by simp only [ml]; try rfl) ?_; (with_reducible refine (gangwayref13_joined.calls _ _ y128 _ _ t124 t131 _ ?side1 ?side2 ?side3 ?side4 A24.out).mono ?_); (case side1 => exact Kd.C_o ((Kd.R_reads' HO130.out).2.2)); (case side2 => exact (Kd.R_reads' HO130.out).2.1); (case side3 => exact Kd.C_o ((Kd.R_reads' HO127.out).2.2)); (case side4 => exact (Kd.R_reads' HO127.out).2.1); rintro e w30 ⟨v132, rfl, ho0, hb⟩; refine ⟨_, rfl, ?_⟩; refine mv4 (am (Kd.R_elder' (Kd.R_o HO127.out) (Kd.R_base ho0) hb)) (am (Kd.R_elder' (Kd.R_o HO130.out) (Kd.R_base ho0) hb)) (am (Kd.R_lower (Kd.R_new' (Kd.R_new' ho0 (Kd.R_lt (Kd.R_o HO127.out))) (Kd.R_lt (Kd.R_o HO130.out))) (below_size (by exact bl_o HB.out)))) (am (below_step (by exact bl_o HB.out) hb)) ?_; clear HO127 HO130 HB; intro HO127 HO130 HO133 HB))
 go_ret
 exact ⟨_, rfl, by (with_reducible repeat (first | apply Kd.R_alloc | apply Kd.R_drewN | apply Kd.R_drew)); exact Kd.R_mono HO133.out (fun _ hk => trivial), by exact bl_g HB.out⟩
end Go.Proofs.Ytfgfnflhdabmcaa.G
end
section
namespace Go.Proofs.Ytfgfnflhdabmcaa.CfaB
open Go.RowKit Go.Proofs.Ytfgfnflhdabmcaa.G Go.Proofs.YtfgfnflhdabmcaaW.PrintWords Go.Proofs.YtfgfnflhdabmcaaW.PrintLast Go.Proofs.YtfgfnflhdabmcaaW.PrintMore Go.Proofs.Ytfgfnflhdabmcaa.Bit Go.Proofs.Ytfgfnflhdabmcaa.Leb Go.Proofs.Ytfgfnflhdabmcaa.Cfa
theorem rU_f (a : Int) (k : Nat) (hk : 10 ≤ k) : gangwayref01_Uleb.f k a = some (U a) := ruleb_f a k hk
theorem join_f (a b : List Int) (ha : a.length ≤ 1000) (hb : b.length ≤ 1000) : gangwayref13_joined.f a b = some (a ++ b) := by
  unfold gangwayref13_joined.f
  rw [Option.bind_some, if_pos (by simp; omega), Option.bind_some, if_pos (by simp; omega)]
  simp
def leB (u : Int) : Nat → List Int
  | 0 => []
  | s + 1 => u % 256 :: leB (u / 256) s
theorem rput_l0 (d : Nat) : ∀ (k : Nat) (u : Int) (s i : Nat) (acc : List Int), i + d = s → d < k → s ≤ 8 → acc.length + d ≤ 100 → gangwayref01_Put.l0 k (s : Int) u acc (i : Int) = some (acc ++ leB u d, 0) := by
  induction d with
  | zero =>
    intro k u s i acc h hk hs ha
    obtain ⟨k, rfl⟩ : ∃ m, k = m + 1 := ⟨k - 1, by omega⟩
    simp only [gangwayref01_Put.l0]
    rw [if_neg (by omega)]
    simp [leB]
  | succ d ih =>
    intro k u s i acc h hk hs ha
    obtain ⟨k, rfl⟩ : ∃ m, k = m + 1 := ⟨k - 1, by omega⟩
    simp only [gangwayref01_Put.l0]
    rw [if_pos (by omega), if_pos (by omega), wrap64_id (by omega) (by omega), show (i : Int) + 1 = ((i + 1 : Nat) : Int) from by omega, ih k (u / 256) s (i + 1) _ (by omega) (by omega) hs (by simp; omega)]
    simp [leB]
theorem rput_go {n : Int} (h0 : 0 ≤ n) (h1 : n ≤ 2147483647) (s : Nat) (hs : s ≤ 8) (k : Nat) (hk : 9 ≤ k) : gangwayref01_Put.l0 k (s : Int) (IntKind.u64.wrap n) [] 0 = some (leB n s, 0) := by
  have := rput_l0 s k (IntKind.u64.wrap n) s 0 [] (by omega) (by omega) hs (by simp; omega)
  rw [wrap_u64, Int.emod_eq_of_lt h0 (by omega)] at this
  rw [wrap_u64, Int.emod_eq_of_lt h0 (by omega)]
  simpa using this
theorem rput1 {n : Int} (h0 : 0 ≤ n) (h1 : n < 256) (k : Nat) (hk : 12 ≤ k) : gangwayref01_Put.f k n 1 = some ([n % 256], 0) := by
  obtain ⟨k, rfl⟩ : ∃ m, k = m + 1 := ⟨k - 1, by omega⟩
  have e1 : wrap64 (-(shl .i64 1 (IntKind.u64.wrap (wrap64 (wrap64 (8 * 1) - 1))))) = -128 := by decide +kernel
  have e2 : shl .i64 1 (IntKind.u64.wrap (wrap64 (8 * 1))) = 256 := by decide +kernel
  have e3 : gangwayref01_sized.f 1 = some true := rfl
  unfold gangwayref01_Put.f
  rw [e3, Option.bind_some, if_pos rfl, e1, e2, if_pos (show (1 : Int) < 8 by omega), if_pos (show 0 ≤ IntKind.u64.wrap (wrap64 (wrap64 (8 * 1) - 1)) by decide +kernel), if_pos (show 0 ≤ IntKind.u64.wrap (wrap64 (8 * 1)) by decide +kernel), if_neg (by omega)]
  simp only [gangwayref01_Put.j0]
  rw [if_neg (by simp; omega)]
  exact rput_go h0 (by omega) 1 (by omega) k (by omega)
theorem rput2 {n : Int} (h0 : 0 ≤ n) (h1 : n < 65536) (k : Nat) (hk : 12 ≤ k) : gangwayref01_Put.f k n 2 = some ([n % 256, n / 256 % 256], 0) := by
  obtain ⟨k, rfl⟩ : ∃ m, k = m + 1 := ⟨k - 1, by omega⟩
  have e1 : wrap64 (-(shl .i64 1 (IntKind.u64.wrap (wrap64 (wrap64 (8 * 2) - 1))))) = -32768 := by decide +kernel
  have e2 : shl .i64 1 (IntKind.u64.wrap (wrap64 (8 * 2))) = 65536 := by decide +kernel
  have e3 : gangwayref01_sized.f 2 = some true := rfl
  unfold gangwayref01_Put.f
  rw [e3, Option.bind_some, if_pos rfl, e1, e2, if_pos (show (2 : Int) < 8 by omega), if_pos (show 0 ≤ IntKind.u64.wrap (wrap64 (wrap64 (8 * 2) - 1)) by decide +kernel), if_pos (show 0 ≤ IntKind.u64.wrap (wrap64 (8 * 2)) by decide +kernel), if_neg (by omega)]
  simp only [gangwayref01_Put.j0]
  rw [if_neg (by simp; omega)]
  exact rput_go h0 (by omega) 2 (by omega) k (by omega)
theorem rput4 {n : Int} (h0 : 0 ≤ n) (h1 : n ≤ 2147483647) (k : Nat) (hk : 12 ≤ k) : gangwayref01_Put.f k n 4 = some ([n % 256, n / 256 % 256, n / 65536 % 256, n / 16777216 % 256], 0) := by
  obtain ⟨k, rfl⟩ : ∃ m, k = m + 1 := ⟨k - 1, by omega⟩
  have e1 : wrap64 (-(shl .i64 1 (IntKind.u64.wrap (wrap64 (wrap64 (8 * 4) - 1))))) = -2147483648 := by decide +kernel
  have e2 : shl .i64 1 (IntKind.u64.wrap (wrap64 (8 * 4))) = 4294967296 := by decide +kernel
  have e3 : gangwayref01_sized.f 4 = some true := rfl
  unfold gangwayref01_Put.f
  rw [e3, Option.bind_some, if_pos rfl, e1, e2, if_pos (show (4 : Int) < 8 by omega), if_pos (show 0 ≤ IntKind.u64.wrap (wrap64 (wrap64 (8 * 4) - 1)) by decide +kernel), if_pos (show 0 ≤ IntKind.u64.wrap (wrap64 (8 * 4)) by decide +kernel), if_neg (by omega)]
  simp only [gangwayref01_Put.j0]
  rw [if_neg (by simp; omega)]
  have := rput_go h0 h1 4 (by omega) k (by omega)
  have e4 : leB n 4 = [n % 256, n / 256 % 256, n / 65536 % 256, n / 16777216 % 256] := by
    simp only [leB]
    rw [show n / 256 / 256 = n / 65536 from by omega, show n / 65536 / 256 = n / 16777216 from by omega]
  rw [e4] at this
  exact this
theorem adv_f {n : Int} (h0 : 0 ≤ n) (h1 : n ≤ 2147483647) (k : Nat) (hk : 12 ≤ k) : gangwayref13_advance.f k n = some (advB n) := by
  unfold gangwayref13_advance.f advB
  by_cases d1 : n < 64
  · rw [if_pos d1, if_pos d1, wrap64_id (by omega) (by omega)]
  · rw [if_neg d1, if_neg d1]
    by_cases d2 : n < 256
    · rw [if_pos d2, if_pos d2, rput1 h0 d2 k hk, Option.bind_some, join_f _ _ (by simp) (by simp), Option.bind_some]
      rfl
    · rw [if_neg d2, if_neg d2]
      by_cases d3 : n < 65536
      · rw [if_pos d3, if_pos d3, rput2 h0 d3 k hk, Option.bind_some, join_f _ _ (by simp) (by simp), Option.bind_some]
        rfl
      · rw [if_neg d3, if_neg d3, rput4 h0 h1 k hk, Option.bind_some, join_f _ _ (by simp) (by simp), Option.bind_some]
        rfl
def Stop (p : Prop) : Prop := p
theorem stopHere {p : Prop} (h : Stop p) : p := h
def RowC (w : World) (v : Value) (l : List Int) : Prop := ∃ A c, v = .slice A l.length c ∧ l.length ≤ c ∧ Kd.C (Kd.int .u8) w A l.length l
theorem RowC.below {w w' : World} {v : Value} {l : List Int} (h : RowC w v l) (hb : Below w.heap.size w w') : RowC w' v l := by
 obtain ⟨A, c, e, hc, hC⟩ := h
 exact ⟨A, c, e, hc, Kd.C_below hC hb⟩
theorem rowC_of {w : World} {v : Value} {l : List Int} {base : Nat} {ok : Nat → Prop} (h : Kd.R (Kd.int .u8) 5 w base ok v l) : RowC w v l := by
 obtain ⟨A, c, rfl⟩ := Kd.R_slice h
 have := Kd.R_reads' h
 exact ⟨A, c, rfl, this.2.1, this.2.2⟩
theorem join_calls {w : World} {v x : Value} {a b : List Int} (hv : RowC w v a) (hx : RowC w x b) (ha : a.length ≤ 1000) (hb : b.length ≤ 1000) :
    Calls Try.prog 92 #[v, x] w fun e w' => ∃ u, e = .returned u ∧ Kd.R (Kd.int .u8) 5 w' w.heap.size (fun _ => True) u (a ++ b) ∧ Below w.heap.size w w' := by
 obtain ⟨A, c, rfl, hc, hC⟩ := hv
 obtain ⟨A', c', rfl, hc', hC'⟩ := hx
 exact gangwayref13_joined.calls A c a A' c' b (a ++ b) w hC hc hC' hc' (join_f a b ha hb)
theorem may_k {k r n : Int} (h : mayF k r n = true) : k = 0 ∨ k = 1 ∨ k = 2 ∨ k = 3 ∨ k = 4 ∨ k = 5 ∨ k = 6 ∨ k = 7 ∨ k = 8 ∨ k = 9 ∨ k = 10 := by
 unfold mayF at h
 split at h
 ·
  omega
 split at h
 ·
  omega
 split at h
 ·
  omega
 split at h
 ·
  omega
 split at h
 ·
  omega
 cases h
set_option maxHeartbeats 4000000 in
theorem one_calls (k r n : Int) (hm : mayF k r n = true) (w : World) : Calls Try.prog 81 #[.agg #[.int .i64 k, .int .i64 r, .int .i64 n]] w fun e w' => ∃ v, e = .returned v ∧ Kd.R (Kd.int .u8) 5 w' w.heap.size (fun _ => True) v (opB k r n) ∧ Below w.heap.size w w' := by
 have hur := U_le r
 have hun := U_le n
 go_enter Try.func81, Try.ntmps81
 go_wp2_with fail
 have hb0 := blk_new w (.cells #[.int .i64 k, .int .i64 r, .int .i64 n] 97)
 have hB0 := below_alloc (Below.refl w.heap.size w) (.cells #[.int .i64 k, .int .i64 r, .int .i64 n] 97)
 obtain ⟨w0, hw0⟩ : ∃ w0, w0 = w.alloc (.cells #[.int .i64 k, .int .i64 r, .int .i64 n] 97) := ⟨_, rfl⟩
 rw [← hw0] at hb0 hB0 ⊢
 clear hw0
 refine (gangwayref01_Uleb.calls 10 r (U r) w0 (rU_f r 10 (by omega))).mono ?_
 rintro e w1 ⟨v1, rfl, hR1, hB1⟩
 have hb1 := blk_below hb0 hB1
 have HB1 := am (below_then hB0 hB0.size hB1)
 have HC1 := am (rowC_of hR1)
 have y2 : w1.cell? ⟨w.heap.size, 2, none⟩ = some (.int .i64 n) := (blk_cell hb1 2).trans rfl
 clear hb0 hB0 hB1 hR1
 go_wp2_with fail
 refine (gangwayref01_Uleb.calls 10 n (U n) w1 (rU_f n 10 (by omega))).mono ?_
 rintro e w2 ⟨v2, rfl, hR2, hB2⟩
 have hb2 := blk_below hb1 hB2
 have HC1 := am (HC1.out.below hB2)
 have HB2 := am (below_then HB1.out HB1.out.size hB2)
 have HC2 := am (rowC_of hR2)
 have y0 : w2.cell? ⟨w.heap.size, 0, none⟩ = some (.int .i64 k) := (blk_cell hb2 0).trans rfl
 have y1 : w2.cell? ⟨w.heap.size, 1, none⟩ = some (.int .i64 r) := (blk_cell hb2 1).trans rfl
 have y2 : w2.cell? ⟨w.heap.size, 2, none⟩ = some (.int .i64 n) := (blk_cell hb2 2).trans rfl
 have HG := am hb2
 have HM := am hm
 have hk := may_k hm
 clear hb1 hB2 hR2 HB1 hb2 hm
 rcases hk with rfl | rfl | rfl | rfl | rfl | rfl | rfl | rfl | rfl | rfl | rfl
 ·
  skip
  go_wp2_with ((with_reducible refine gate_dst (N := 83) rfl ?_); refine stopHere ?stop)
  case stop =>
   unfold Stop
   refine Kd.R_lit (Kd.int .u8) _ 5 ?hg (N := 83) ?hd (xs := ([0] : List Int)) (inner := [.int .u8 (0)]) (ok := fun _ => True) (okp := fun _ => True) ?hr (Reps.one (show Kd.M (Kd.int .u8) _ _ _ (0) [.int .u8 (0)] from rfl) (Reps.none _ _)) (fun _ hk => hk) trivial (Below.refl _ _) (Nat.le_refl _) (by simp) ?_
   case hd => rfl
   case hg => rfl
   case hr => first | (go_simp; done) | (go_simp; rfl)
   intro v3 w3 hR hB _ _
   have HB3 := am (below_then HB2.out HB2.out.size hB)
   go_wp2
   go_ret
   exact ⟨_, rfl, Kd.R_lower (show Kd.R (Kd.int .u8) 5 _ _ _ _ (opB 0 r n) from hR) HB2.out.size, HB3.out⟩
 ·
  obtain ⟨h0, h1⟩ := may1 HM.out
  go_wp2_with fail
  refine (gangwayref13_advance.calls 12 n (advB n) w2 (adv_f h0 h1 12 (by omega))).mono ?_
  rintro e w3 ⟨v3, rfl, hR, hB⟩
  go_wp2
  go_ret
  exact ⟨_, rfl, Kd.R_lower (show Kd.R (Kd.int .u8) 5 _ _ _ _ (opB 1 r n) from hR) HB2.out.size, below_then HB2.out HB2.out.size hB⟩
 ·
  skip
  go_wp2_with ((with_reducible refine gate_dst (N := 20) rfl ?_); refine stopHere ?stop)
  case stop =>
   unfold Stop
   refine Kd.R_lit (Kd.int .u8) _ 5 ?hg (N := 20) ?hd (xs := ([12] : List Int)) (inner := [.int .u8 (12)]) (ok := fun _ => True) (okp := fun _ => True) ?hr (Reps.one (show Kd.M (Kd.int .u8) _ _ _ (12) [.int .u8 (12)] from rfl) (Reps.none _ _)) (fun _ hk => hk) trivial (Below.refl _ _) (Nat.le_refl _) (by simp) ?_
   case hd => rfl
   case hg => rfl
   case hr => first | (go_simp; done) | (go_simp; rfl)
   intro v3 w3 hR hB _ _
   have HB3 := am (below_then HB2.out HB2.out.size hB)
   have HR := am (rowC_of hR)
   have HX := am (HC1.out.below hB)
   have HY := am (HC2.out.below hB)
   clear hR hB
   go_wp2_with fail
   refine (join_calls HR.out HX.out (by simp) (by omega)).mono ?_
   rintro e w4 ⟨v4, rfl, hR4, hB4⟩
   have HR4 := am (rowC_of hR4)
   have HY4 := am (HY.out.below hB4)
   have HB4 := am (below_then HB3.out HB3.out.size hB4)
   clear hR4 hB4
   go_wp2_with fail
   refine (join_calls HR4.out HY4.out (by rw [List.length_append, List.length_singleton]; omega) (by omega)).mono ?_
   rintro e w5 ⟨v5, rfl, hR5, hB5⟩
   go_wp2
   go_ret
   exact ⟨_, rfl, Kd.R_lower (show Kd.R (Kd.int .u8) 5 _ _ _ _ (opB 2 r n) from hR5) HB4.out.size, below_then HB4.out HB4.out.size hB5⟩
 ·
  skip
  go_wp2_with ((with_reducible refine gate_dst (N := 32) rfl ?_); refine stopHere ?stop)
  case stop =>
   unfold Stop
   refine Kd.R_lit (Kd.int .u8) _ 5 ?hg (N := 32) ?hd (xs := ([14] : List Int)) (inner := [.int .u8 (14)]) (ok := fun _ => True) (okp := fun _ => True) ?hr (Reps.one (show Kd.M (Kd.int .u8) _ _ _ (14) [.int .u8 (14)] from rfl) (Reps.none _ _)) (fun _ hk => hk) trivial (Below.refl _ _) (Nat.le_refl _) (by simp) ?_
   case hd => rfl
   case hg => rfl
   case hr => first | (go_simp; done) | (go_simp; rfl)
   intro v3 w3 hR hB _ _
   have HB3 := am (below_then HB2.out HB2.out.size hB)
   have HR := am (rowC_of hR)
   have HX := am (HC2.out.below hB)
   clear hR hB
   go_wp2_with fail
   refine (join_calls HR.out HX.out (by simp) (by omega)).mono ?_
   rintro e w4 ⟨v4, rfl, hR4, hB4⟩
   go_wp2
   go_ret
   exact ⟨_, rfl, Kd.R_lower (show Kd.R (Kd.int .u8) 5 _ _ _ _ (opB 3 r n) from hR4) HB3.out.size, below_then HB3.out HB3.out.size hB4⟩
 ·
  skip
  go_wp2_with ((with_reducible refine gate_dst (N := 27) rfl ?_); refine stopHere ?stop)
  case stop =>
   unfold Stop
   refine Kd.R_lit (Kd.int .u8) _ 5 ?hg (N := 27) ?hd (xs := ([13] : List Int)) (inner := [.int .u8 (13)]) (ok := fun _ => True) (okp := fun _ => True) ?hr (Reps.one (show Kd.M (Kd.int .u8) _ _ _ (13) [.int .u8 (13)] from rfl) (Reps.none _ _)) (fun _ hk => hk) trivial (Below.refl _ _) (Nat.le_refl _) (by simp) ?_
   case hd => rfl
   case hg => rfl
   case hr => first | (go_simp; done) | (go_simp; rfl)
   intro v3 w3 hR hB _ _
   have HB3 := am (below_then HB2.out HB2.out.size hB)
   have HR := am (rowC_of hR)
   have HX := am (HC1.out.below hB)
   clear hR hB
   go_wp2_with fail
   refine (join_calls HR.out HX.out (by simp) (by omega)).mono ?_
   rintro e w4 ⟨v4, rfl, hR4, hB4⟩
   go_wp2
   go_ret
   exact ⟨_, rfl, Kd.R_lower (show Kd.R (Kd.int .u8) 5 _ _ _ _ (opB 4 r n) from hR4) HB3.out.size, below_then HB3.out HB3.out.size hB4⟩
 ·
  obtain ⟨m, rfl, h1, h2, h3, h4⟩ := may5 HM.out
  have e : 8 * m / 8 = m := Int.mul_ediv_cancel_left m (by decide)
  have e2 : wrap64 (-(wrap64 m)) = -m := by
   rw [wrap64_id (n := m) (by omega) (by omega), wrap64_id (by omega) (by omega)]
  have e3 : wrap64 (128 + r) = 128 + r := wrap64_id (by omega) (by omega)
  have HE := am (And.intro e (And.intro e2 e3))
  have hum := U_le (-m)
  have hsm := S_le (a := -m) (by omega) (by omega)
  clear e e2 e3
  have hS : Aside0 (∀ u, Below w.heap.size w u → True) := ⟨fun _ _ => trivial⟩
  clear hS
  by_cases hd : 8 * m ≤ 0
  rotate_left
  ·
   have hdd : decide (8 * m ≤ 0) = false := decide_eq_false hd
   have HSS : Aside0 (∀ u, Below w2.heap.size w2 u → u.cell? ⟨w.heap.size, 1, none⟩ = some (.int .i64 r) ∧ u.cell? ⟨w.heap.size, 2, none⟩ = some (.int .i64 (8 * m))) := ⟨fun u hu => ⟨(blk_cell (blk_below HG.out hu) 1).trans rfl, (blk_cell (blk_below HG.out hu) 2).trans rfl⟩⟩
   have HD : Aside0 (Below w2.heap.size w2 w2.drew) := ⟨below_drew (Below.refl _ _)⟩
   have HX := am (HC1.out.below HD.out)
   go_upto_region 15 with fail
   refine start_ (n := 10) (S := fun u => u.cell? ⟨w.heap.size, 1, none⟩ = some (.int .i64 r) ∧ u.cell? ⟨w.heap.size, 2, none⟩ = some (.int .i64 (8 * m))) (ds := [8]) (bm 10 0) (by kernel_rfl) rfl rfl ?_ (fun hHeld => ?_)
   case refine_1 => exact HSS.out _ HD.out
   refine pure_ (i := 1) (N := some 52) (v := ?_) (a' := ?_) (bm 10 2) rfl rfl (by kernel_rfl) (fun _ _ _ h => h) (Or.inl ⟨by rfl, ?_⟩) ?_ ?_
   rotate_left
   ·
    intro u
    go_simp
    with_reducible rfl
   rotate_left
   ·
    simp only [pz]
    rfl
   refine pure_ (i := 3) (N := some 54) (v := ?_) (a' := ?_) (bm 10 10) rfl rfl (by kernel_rfl) (fun _ _ _ h => h) (Or.inl ⟨by rfl, ?_⟩) ?_ ?_
   rotate_left
   ·
    intro u
    go_simp
    with_reducible rfl
   rotate_left
   ·
    simp only [pz]
    rfl
   refine take_ (i := 4) (N := some 55) (v := ?_) (a' := ?_) (bm 10 26) rfl rfl (by kernel_rfl) (fun _ _ _ h => h) (Or.inl ⟨by rfl, ?_⟩) hHeld ?_ ?_
   rotate_left
   ·
    rintro u ⟨s1, s2⟩
    go_simp
    with_reducible rfl
   rotate_left
   ·
    simp only [pz]
    rfl
   refine pure_ (i := 5) (N := some 56) (v := ?_) (a' := ?_) (bm 10 58) rfl rfl (by kernel_rfl) (fun _ _ _ h => h) (Or.inl ⟨by rfl, ?_⟩) ?_ ?_
   rotate_left
   ·
    intro u
    go_simp
    with_reducible rfl
   rotate_left
   ·
    simp only [pz]
    rfl
   refine pure_ (i := 6) (N := some 57) (v := ?_) (a' := ?_) (bm 10 122) rfl rfl (by kernel_rfl) (fun _ _ _ h => h) (Or.inl ⟨by rfl, ?_⟩) ?_ ?_
   rotate_left
   ·
    intro u
    go_simp
    with_reducible rfl
   rotate_left
   ·
    simp only [pz]
    rfl
   refine one_ (i := 0) (N := some 51) (bm 10 123) rfl rfl (by kernel_rfl) (by decide) (fun K hK => ?_)
   refine Kd.R_lit_step (Kd.int .u8) _ 5 ?hg (N := 51) ?hd (xs := ([17] : List Int)) (inner := [.int .u8 (17)]) (ok := fun _ => True) (okp := fun _ => True) ?hr (Reps.one (show Kd.M (Kd.int .u8) _ _ _ (17) [.int .u8 (17)] from rfl) (Reps.none _ _)) (fun _ hk => hk) trivial (Below.refl _ _) (Nat.le_refl _) (by simp) ?_; (case hd => rfl); (case hg => rfl); (case hr => first | (go_simp; done) | (go_simp; rfl))
   intro v3 w3 hR3 hB3 _ _
   have HB3 := am (below_then HD.out HD.out.size hB3)
   have HL3 := am (rowC_of hR3)
   have HX3 := am (HX.out.below hB3)
   clear hR3 hB3 hHeld
   refine hK.out _ _ (HSS.out _ HB3.out) (fun hHeld => ?_)
   clear hK K
   refine norm_ (a' := ?_) ?_ ?_
   rotate_left
   ·
    show Act.put _ (some 51) _ = _
    simp only [pz]
    rfl
   refine one_ (i := 2) (N := some 53) (bm 10 127) rfl rfl (by kernel_rfl) (by decide) (fun K hK => ?_)
   refine call_ 92 #[v3, v1] (by rfl) rfl (by go_simp) ?_
   refine (join_calls HL3.out HX3.out (by simp) (by omega)).mono ?_
   rintro e w4 ⟨v4, rfl, hR4, hB4⟩
   refine ⟨_, rfl, ?_⟩
   have HB4 := am (below_then HB3.out HB3.out.size hB4)
   have HL4 := am (rowC_of hR4)
   clear hR4 hB4
   refine hK.out _ _ (HSS.out _ HB4.out) (fun hHeld => ?_)
   clear hK K
   refine norm_ (a' := ?_) ?_ ?_
   rotate_left
   ·
    show Act.put _ (some 53) _ = _
    simp only [pz]
    rfl
   refine one_ (i := 7) (N := some 58) (bm 10 255) rfl rfl (by kernel_rfl) (by decide) (fun K hK => ?_)
   refine call_ 45 #[.int .i64 (-m)] (by rfl) rfl (by go_simp; rw [HE.out.2.1]) ?_
   refine (gangwayref01_Sleb.calls 10 (-m) (slebL (-m)) _ (rsleb_f (-m) (by omega) (by omega) 10 (by omega))).mono ?_
   rintro e w5 ⟨v5, rfl, hR5, hB5⟩
   refine ⟨_, rfl, ?_⟩
   have HB5 := am (below_then HB4.out HB4.out.size hB5)
   have HL5 := am (HL4.out.below hB5)
   have HU5 := am (rowC_of hR5)
   clear hR5 hB5
   refine hK.out _ _ (HSS.out _ HB5.out) (fun hHeld => ?_)
   clear hK K
   refine norm_ (a' := ?_) ?_ ?_
   rotate_left
   ·
    show Act.put _ (some 58) _ = _
    simp only [pz]
    rfl
   refine last_ (i := 8) (N := some 59) (bm 10 511) rfl rfl (by kernel_rfl) (by decide) (fun K hK => ?_)
   refine call_ 92 #[v4, v5] (by rfl) rfl (by go_simp) ?_
   refine (join_calls HL5.out HU5.out (by rw [List.length_append, List.length_singleton]; omega) (by omega)).mono ?_
   rintro e w6 ⟨v6, rfl, hR6, hB6⟩
   refine ⟨_, rfl, ?_⟩
   have HB6 := am (below_then HB5.out HB5.out.size hB6)
   refine hK.out _ _ ?_
   clear hK K
   refine norm_ (a' := ?_) ?_ ?_
   rotate_left
   ·
    show Act.put _ (some 59) _ = _
    simp only [pz]
    rfl
   refine pure_ (i := 9) (N := some 2) (v := ?_) (a' := ?_) (bm 10 1023) rfl rfl (by kernel_rfl) (fun _ _ _ h => h) (Or.inl ⟨by rfl, ?_⟩) ?_ ?_
   rotate_left
   ·
    intro u
    go_simp
    with_reducible rfl
   rotate_left
   ·
    simp only [pz]
    rfl
   refine done_ (by kernel_rfl) ?_
   go_wp2
   go_ret
   refine ⟨_, rfl, Kd.R_lower (show Kd.R (Kd.int .u8) 5 _ _ _ _ (opB 5 r (8 * m)) from ?_) (Nat.le_trans HB2.out.size HB5.out.size), below_then HB2.out HB2.out.size HB6.out⟩
   rw [show opB 5 r (8 * m) = [17] ++ U r ++ slebL (-(8 * m / 8)) from if_neg (show ¬ 8 * m ≤ 0 by omega), HE.out.1]
   exact hR6
  have hdd : decide (8 * m ≤ 0) = true := decide_eq_true hd
  have HSS : Aside0 (∀ u, Below w2.heap.size w2 u → u.cell? ⟨w.heap.size, 1, none⟩ = some (.int .i64 r) ∧ u.cell? ⟨w.heap.size, 2, none⟩ = some (.int .i64 (8 * m))) := ⟨fun u hu => ⟨(blk_cell (blk_below HG.out hu) 1).trans rfl, (blk_cell (blk_below HG.out hu) 2).trans rfl⟩⟩
  have HD : Aside0 (Below w2.heap.size w2 w2.drew) := ⟨below_drew (Below.refl _ _)⟩
  go_upto_region 14 with fail
  refine start_ (n := 12) (S := fun u => u.cell? ⟨w.heap.size, 1, none⟩ = some (.int .i64 r) ∧ u.cell? ⟨w.heap.size, 2, none⟩ = some (.int .i64 (8 * m))) (ds := []) (bm 12 0) (by kernel_rfl) rfl rfl ?_ (fun hHeld => ?_)
  case refine_1 => exact HSS.out _ HD.out
  refine pure_ (i := 0) (N := some 40) (v := ?_) (a' := ?_) (bm 12 1) rfl rfl (by kernel_rfl) (fun _ _ _ h => h) (Or.inl ⟨by rfl, ?_⟩) ?_ ?_
  rotate_left
  ·
   intro u
   go_simp
   with_reducible rfl
  rotate_left
  ·
   simp only [pz]
   rfl
  refine take_ (i := 1) (N := some 41) (v := ?_) (a' := ?_) (bm 12 3) rfl rfl (by kernel_rfl) (fun _ _ _ h => h) (Or.inl ⟨by rfl, ?_⟩) hHeld ?_ ?_
  rotate_left
  ·
   rintro u ⟨s1, s2⟩
   go_simp
   with_reducible rfl
  rotate_left
  ·
   simp only [pz]
   rfl
  refine pure_ (i := 2) (N := some 42) (v := ?_) (a' := ?_) (bm 12 7) rfl rfl (by kernel_rfl) (fun _ _ _ h => h) (Or.inl ⟨by rfl, ?_⟩) ?_ ?_
  rotate_left
  ·
   intro u
   go_simp
   with_reducible rfl
  rotate_left
  ·
   simp only [pz]
   rfl
  refine pure_ (i := 3) (N := some 43) (v := ?_) (a' := ?_) (bm 12 15) rfl rfl (by kernel_rfl) (fun _ _ _ h => h) (Or.inl ⟨by rfl, ?_⟩) ?_ ?_
  rotate_left
  ·
   intro u
   go_simp
   with_reducible rfl
  rotate_left
  ·
   simp only [pz]
   rfl
  refine pure_ (i := 5) (N := some 45) (v := ?_) (a' := ?_) (bm 12 47) rfl rfl (by kernel_rfl) (fun _ _ _ h => h) (Or.inl ⟨by rfl, ?_⟩) ?_ ?_
  rotate_left
  ·
   intro u
   go_simp
   with_reducible rfl
  rotate_left
  ·
   simp only [pz]
   rfl
  refine take_ (i := 6) (N := some 46) (v := ?_) (a' := ?_) (bm 12 111) rfl rfl (by kernel_rfl) (fun _ _ _ h => h) (Or.inl ⟨by rfl, ?_⟩) hHeld ?_ ?_
  rotate_left
  ·
   rintro u ⟨s1, s2⟩
   go_simp
   with_reducible rfl
  rotate_left
  ·
   simp only [pz]
   rfl
  refine pure_ (i := 7) (N := some 47) (v := ?_) (a' := ?_) (bm 12 239) rfl rfl (by kernel_rfl) (fun _ _ _ h => h) (Or.inl ⟨by rfl, ?_⟩) ?_ ?_
  rotate_left
  ·
   intro u
   go_simp
   with_reducible rfl
  rotate_left
  ·
   simp only [pz]
   rfl
  refine pure_ (i := 8) (N := some 48) (v := ?_) (a' := ?_) (bm 12 495) rfl rfl (by kernel_rfl) (fun _ _ _ h => h) (Or.inl ⟨by rfl, ?_⟩) ?_ ?_
  rotate_left
  ·
   intro u
   go_simp
   with_reducible rfl
  rotate_left
  ·
   simp only [pz]
   rfl
  refine two_ (i := 4) (j := 9) (Ni := some 44) (Nj := some 49) (bm 12 511) (bm 12 1007) rfl rfl rfl rfl (by kernel_rfl) (by decide) (by decide) (fun K hK => ?_) (fun K hK => ?_)
  ·
   skip
   refine Kd.R_lit_step (Kd.int .u8) _ 5 ?hg (N := 44) ?hd (xs := ([(wrap64 (128 + r)) % 256] : List Int)) (inner := [.int .u8 ((wrap64 (128 + r)) % 256)]) (ok := fun _ => True) (okp := fun _ => True) ?hr (Reps.one (show Kd.M (Kd.int .u8) _ _ _ ((wrap64 (128 + r)) % 256) [.int .u8 ((wrap64 (128 + r)) % 256)] from rfl) (Reps.none _ _)) (fun _ hk => hk) trivial (Below.refl _ _) (Nat.le_refl _) (by simp) ?_; (case hd => rfl); (case hg => rfl); (case hr => first | (go_simp; done) | (go_simp; rfl))
   intro v3 w3 hR3 hB3 _ _
   have HB3 := am (below_then HD.out HD.out.size hB3)
   have HL3 := am (rowC_of hR3)
   clear hR3 hB3 hHeld
   refine hK.out _ _ (HSS.out _ HB3.out) (fun _ => ?_)
   clear hK K
   refine norm_ (a' := ?_) ?_ ?_
   rotate_left
   ·
    show Act.put _ (some 44) _ = _
    simp only [pz]
    rfl
   refine one_ (i := 9) (N := some 49) (bm 12 1023) rfl rfl (by kernel_rfl) (by decide) (fun K hK => ?_)
   refine call_ 44 #[.int .i64 (-m)] (by rfl) rfl (by go_simp; rw [HE.out.2.1]) ?_
   refine (gangwayref01_Uleb.calls 10 (-m) (U (-m)) _ (rU_f (-m) 10 (by omega))).mono ?_
   rintro e w4 ⟨v4, rfl, hR4, hB4⟩
   refine ⟨_, rfl, ?_⟩
   have HB4 := am (below_then HB3.out HB3.out.size hB4)
   have HL := am (HL3.out.below hB4)
   have HU := am (rowC_of hR4)
   clear hR4 hB4
   refine hK.out _ _ (HSS.out _ HB4.out) (fun _ => ?_)
   clear hK K
   refine norm_ (a' := ?_) ?_ ?_
   rotate_left
   ·
    show Act.put _ (some 49) _ = _
    simp only [pz]
    rfl
   refine one_ (i := 10) (N := some 50) (bm 12 2047) rfl rfl (by kernel_rfl) (by decide) (fun K hK => ?_)
   refine call_ 92 #[v3, v4] (by rfl) rfl (by go_simp) ?_
   refine (join_calls HL.out HU.out (by simp) (by omega)).mono ?_
   rintro e w5 ⟨v5, rfl, hR5, hB5⟩
   refine ⟨_, rfl, ?_⟩
   have HB5 := am (below_then HB4.out HB4.out.size hB5)
   refine hK.out _ _ (HSS.out _ HB5.out) (fun _ => ?_)
   refine norm_ (a' := ?_) ?_ ?_
   rotate_left
   ·
    show Act.put _ (some 50) _ = _
    simp only [pz]
    rfl
   refine pure_ (i := 11) (N := some 2) (v := ?_) (a' := ?_) (bm 12 4095) rfl rfl (by kernel_rfl) (fun _ _ _ h => h) (Or.inl ⟨by rfl, ?_⟩) ?_ ?_
   rotate_left
   ·
    intro u
    go_simp
    with_reducible rfl
   rotate_left
   ·
    simp only [pz]
    rfl
   refine done_ (by kernel_rfl) ?_
   go_wp2
   go_ret
   refine ⟨_, rfl, Kd.R_lower (show Kd.R (Kd.int .u8) 5 _ _ _ _ (opB 5 r (8 * m)) from ?_) (Nat.le_trans HB2.out.size HB4.out.size), below_then HB2.out HB2.out.size HB5.out⟩
   rw [show opB 5 r (8 * m) = [(128 + r) % 256] ++ U (-(8 * m / 8)) from if_pos hd, HE.out.1, ← HE.out.2.2]
   exact hR5
  skip
  refine call_ 44 #[.int .i64 (-m)] (by rfl) rfl (by go_simp; rw [HE.out.2.1]) ?_
  refine (gangwayref01_Uleb.calls 10 (-m) (U (-m)) _ (rU_f (-m) 10 (by omega))).mono ?_
  rintro e w3 ⟨v3, rfl, hR3, hB3⟩
  refine ⟨_, rfl, ?_⟩
  have HB3 := am (below_then HD.out HD.out.size hB3)
  have HU3 := am (rowC_of hR3)
  clear hR3 hB3 hHeld
  refine hK.out _ _ (HSS.out _ HB3.out) (fun _ => ?_)
  clear hK K
  refine norm_ (a' := ?_) ?_ ?_
  rotate_left
  ·
   show Act.put _ (some 49) _ = _
   simp only [pz]
   rfl
  refine one_ (i := 4) (N := some 44) (bm 12 1023) rfl rfl (by kernel_rfl) (by decide) (fun K hK => ?_)
  refine Kd.R_lit_step (Kd.int .u8) _ 5 ?hg (N := 44) ?hd (xs := ([(wrap64 (128 + r)) % 256] : List Int)) (inner := [.int .u8 ((wrap64 (128 + r)) % 256)]) (ok := fun _ => True) (okp := fun _ => True) ?hr (Reps.one (show Kd.M (Kd.int .u8) _ _ _ ((wrap64 (128 + r)) % 256) [.int .u8 ((wrap64 (128 + r)) % 256)] from rfl) (Reps.none _ _)) (fun _ hk => hk) trivial (Below.refl _ _) (Nat.le_refl _) (by simp) ?_; (case hd => rfl); (case hg => rfl); (case hr => first | (go_simp; done) | (go_simp; rfl))
  intro v4 w4 hR4 hB4 _ _
  have HB4 := am (below_then HB3.out HB3.out.size hB4)
  have HU := am (HU3.out.below hB4)
  have HL := am (rowC_of hR4)
  clear hR4 hB4
  refine hK.out _ _ (HSS.out _ HB4.out) (fun _ => ?_)
  clear hK K
  refine norm_ (a' := ?_) ?_ ?_
  rotate_left
  ·
   show Act.put _ (some 44) _ = _
   simp only [pz]
   rfl
  refine one_ (i := 10) (N := some 50) (bm 12 2047) rfl rfl (by kernel_rfl) (by decide) (fun K hK => ?_)
  refine call_ 92 #[v4, v3] (by rfl) rfl (by go_simp) ?_
  refine (join_calls HL.out HU.out (by simp) (by omega)).mono ?_
  rintro e w5 ⟨v5, rfl, hR5, hB5⟩
  refine ⟨_, rfl, ?_⟩
  have HB5 := am (below_then HB4.out HB4.out.size hB5)
  refine hK.out _ _ (HSS.out _ HB5.out) (fun _ => ?_)
  refine norm_ (a' := ?_) ?_ ?_
  rotate_left
  ·
   show Act.put _ (some 50) _ = _
   simp only [pz]
   rfl
  refine pure_ (i := 11) (N := some 2) (v := ?_) (a' := ?_) (bm 12 4095) rfl rfl (by kernel_rfl) (fun _ _ _ h => h) (Or.inl ⟨by rfl, ?_⟩) ?_ ?_
  rotate_left
  ·
   intro u
   go_simp
   with_reducible rfl
  rotate_left
  ·
   simp only [pz]
   rfl
  refine done_ (by kernel_rfl) ?_
  go_wp2
  go_ret
  refine ⟨_, rfl, Kd.R_lower (show Kd.R (Kd.int .u8) 5 _ _ _ _ (opB 5 r (8 * m)) from ?_) (Nat.le_trans HB2.out.size HB4.out.size), below_then HB2.out HB2.out.size HB5.out⟩
  rw [show opB 5 r (8 * m) = [(128 + r) % 256] ++ U (-(8 * m / 8)) from if_pos hd, HE.out.1, ← HE.out.2.2]
  exact hR5
 ·
  obtain ⟨h0, h1⟩ := may6 HM.out
  go_wp2_with ((with_reducible refine gate_dst (N := 66) rfl ?_); refine stopHere ?stop)
  case stop =>
   unfold Stop
   refine Kd.R_lit (Kd.int .u8) _ 5 ?hg (N := 66) ?hd (xs := ([192 + r] : List Int)) (inner := [.int .u8 (192 + r)]) (ok := fun _ => True) (okp := fun _ => True) ?hr (Reps.one (show Kd.M (Kd.int .u8) _ _ _ (192 + r) [.int .u8 (192 + r)] from rfl) (Reps.none _ _)) (fun _ hk => hk) trivial (Below.refl _ _) (Nat.le_refl _) (by simp) ?_
   case hd => rfl
   case hg => rfl
   case hr => first | (go_simp; done) | (go_simp; rfl)
   intro v3 w3 hR hB _ _
   have HB3 := am (below_then HB2.out HB2.out.size hB)
   go_wp2
   go_ret
   refine ⟨_, rfl, Kd.R_lower (show Kd.R (Kd.int .u8) 5 _ _ _ _ (opB 6 r n) from ?_) HB2.out.size, HB3.out⟩
   rw [show opB 6 r n = [(192 + r) % 256] from rfl, show (192 + r) % 256 = 192 + r by omega]
   exact hR
 ·
  skip
  go_wp2_with ((with_reducible refine gate_dst (N := 69) rfl ?_); refine stopHere ?stop)
  case stop =>
   unfold Stop
   refine Kd.R_lit (Kd.int .u8) _ 5 ?hg (N := 69) ?hd (xs := ([7] : List Int)) (inner := [.int .u8 (7)]) (ok := fun _ => True) (okp := fun _ => True) ?hr (Reps.one (show Kd.M (Kd.int .u8) _ _ _ (7) [.int .u8 (7)] from rfl) (Reps.none _ _)) (fun _ hk => hk) trivial (Below.refl _ _) (Nat.le_refl _) (by simp) ?_
   case hd => rfl
   case hg => rfl
   case hr => first | (go_simp; done) | (go_simp; rfl)
   intro v3 w3 hR hB _ _
   have HB3 := am (below_then HB2.out HB2.out.size hB)
   have HR := am (rowC_of hR)
   have HX := am (HC1.out.below hB)
   clear hR hB
   go_wp2_with fail
   refine (join_calls HR.out HX.out (by simp) (by omega)).mono ?_
   rintro e w4 ⟨v4, rfl, hR4, hB4⟩
   go_wp2
   go_ret
   exact ⟨_, rfl, Kd.R_lower (show Kd.R (Kd.int .u8) 5 _ _ _ _ (opB 7 r n) from hR4) HB3.out.size, below_then HB3.out HB3.out.size hB4⟩
 ·
  skip
  go_wp2_with ((with_reducible refine gate_dst (N := 74) rfl ?_); refine stopHere ?stop)
  case stop =>
   unfold Stop
   refine Kd.R_lit (Kd.int .u8) _ 5 ?hg (N := 74) ?hd (xs := ([8] : List Int)) (inner := [.int .u8 (8)]) (ok := fun _ => True) (okp := fun _ => True) ?hr (Reps.one (show Kd.M (Kd.int .u8) _ _ _ (8) [.int .u8 (8)] from rfl) (Reps.none _ _)) (fun _ hk => hk) trivial (Below.refl _ _) (Nat.le_refl _) (by simp) ?_
   case hd => rfl
   case hg => rfl
   case hr => first | (go_simp; done) | (go_simp; rfl)
   intro v3 w3 hR hB _ _
   have HB3 := am (below_then HB2.out HB2.out.size hB)
   have HR := am (rowC_of hR)
   have HX := am (HC1.out.below hB)
   clear hR hB
   go_wp2_with fail
   refine (join_calls HR.out HX.out (by simp) (by omega)).mono ?_
   rintro e w4 ⟨v4, rfl, hR4, hB4⟩
   go_wp2
   go_ret
   exact ⟨_, rfl, Kd.R_lower (show Kd.R (Kd.int .u8) 5 _ _ _ _ (opB 8 r n) from hR4) HB3.out.size, below_then HB3.out HB3.out.size hB4⟩
 ·
  skip
  go_wp2_with ((with_reducible refine gate_dst (N := 79) rfl ?_); refine stopHere ?stop)
  case stop =>
   unfold Stop
   refine Kd.R_lit (Kd.int .u8) _ 5 ?hg (N := 79) ?hd (xs := ([10] : List Int)) (inner := [.int .u8 (10)]) (ok := fun _ => True) (okp := fun _ => True) ?hr (Reps.one (show Kd.M (Kd.int .u8) _ _ _ (10) [.int .u8 (10)] from rfl) (Reps.none _ _)) (fun _ hk => hk) trivial (Below.refl _ _) (Nat.le_refl _) (by simp) ?_
   case hd => rfl
   case hg => rfl
   case hr => first | (go_simp; done) | (go_simp; rfl)
   intro v3 w3 hR hB _ _
   have HB3 := am (below_then HB2.out HB2.out.size hB)
   go_wp2
   go_ret
   exact ⟨_, rfl, Kd.R_lower (show Kd.R (Kd.int .u8) 5 _ _ _ _ (opB 9 r n) from hR) HB2.out.size, HB3.out⟩
 skip
 go_wp2_with ((with_reducible refine gate_dst (N := 82) rfl ?_); refine stopHere ?stop)
 case stop =>
  unfold Stop
  refine Kd.R_lit (Kd.int .u8) _ 5 ?hg (N := 82) ?hd (xs := ([11] : List Int)) (inner := [.int .u8 (11)]) (ok := fun _ => True) (okp := fun _ => True) ?hr (Reps.one (show Kd.M (Kd.int .u8) _ _ _ (11) [.int .u8 (11)] from rfl) (Reps.none _ _)) (fun _ hk => hk) trivial (Below.refl _ _) (Nat.le_refl _) (by simp) ?_
  case hd => rfl
  case hg => rfl
  case hr => first | (go_simp; done) | (go_simp; rfl)
  intro v3 w3 hR hB _ _
  have HB3 := am (below_then HB2.out HB2.out.size hB)
  go_wp2
  go_ret
  exact ⟨_, rfl, Kd.R_lower (show Kd.R (Kd.int .u8) 5 _ _ _ _ (opB 10 r n) from hR) HB2.out.size, HB3.out⟩
end Go.Proofs.Ytfgfnflhdabmcaa.CfaB
end
section
namespace Go.Proofs.Ytfgfnflhdabmcaa.G
open Go.RowKit Go.Proofs.YtfgfnflhdabmcaaW.PrintWords Go.Proofs.YtfgfnflhdabmcaaW.PrintLast Go.Proofs.YtfgfnflhdabmcaaW.PrintMore
attribute [local go_sem] max2_int min2_int max_two min_two max_three min_three max_four min_four
def gangwayref13_one.f (k : Nat) (a0_0 a0_1 a0_2 : Int) : Option (List Int) := if mayF a0_0 a0_1 a0_2 = true then some (CfaB.opB a0_0 a0_1 a0_2) else none
theorem gangwayref13_one.calls (k : Nat) (a0_0 : Int) (a0_1 : Int) (a0_2 : Int) (r : List Int) (w : World) (h : gangwayref13_one.f k a0_0 a0_1 a0_2 = some r) :
    Calls Try.prog 81 #[.agg #[.int .i64 a0_0, .int .i64 a0_1, .int .i64 a0_2]] w fun e w' => ∃ v0_ : Value, e = .returned (v0_) ∧ Kd.R (Kd.int .u8) 5 w' w.heap.size (fun _ => True) v0_ r ∧ Below w.heap.size w w' := by
 unfold gangwayref13_one.f at h
 split at h
 case isFalse => cases h
 rename_i hb
 obtain rfl := Option.some.inj h
 exact CfaB.one_calls a0_0 a0_1 a0_2 hb w
def gangwayref13_Write.l0 : Nat → List (S97) → List Int → Int → Option (List Int × Int)
  | 0, _, _, _ => none
  | k + 1, x0, x4, x5 => if x5 < (x0.length : Int) then (if 0 ≤ x5 then ((gangwayref13_May.f k ((rd_T97 x0 x5).f0) ((rd_T97 x0 x5).f1) ((rd_T97 x0 x5).f2)).bind fun t102 => (if t102 = true then ((gangwayref13_one.f k ((rd_T97 x0 x5).f0) ((rd_T97 x0 x5).f1) ((rd_T97 x0 x5).f2)).bind fun t104 => (if x4.length + t104.length < 140737488355328 then (gangwayref13_Write.l0 k x0 (x4 ++ t104) (wrap64 (x5 + 1))) else (none))) else (some (([] : List Int), 130)))) else (none)) else (some (x4, 0))
def gangwayref13_Write.f (k : Nat) (l0 : List (S97)) : Option (List Int × Int) := if (l0.length : Int) > 4000 then (some (([] : List Int), 6)) else (gangwayref13_Write.l0 k l0 ([] : List Int) 0)
set_option maxHeartbeats 8000000 in
theorem gangwayref13_Write.calls (k : Nat) (A0 : Option Addr) (c0 : Nat) (l0 : List (S97)) (r1 : List Int) (r2 : Int) (w : World) (hr0 : Kd.C k97 w A0 l0.length l0) (hc0 : l0.length ≤ c0) (h : gangwayref13_Write.f k l0 = some (r1, r2)) :
    Calls Try.prog 60 #[.slice A0 l0.length c0] w fun e w' => ∃ v0_ : Value, e = .returned (.tuple #[v0_, .int .i64 r2]) ∧ Kd.R (Kd.int .u8) 5 w' w.heap.size (fun _ => True) v0_ r1 ∧ Below w.heap.size w w' := by
 have hu97 := Try.underlying97
 have HR0 := am hr0
 have HC0 := am hc0
 clear hr0 hc0
 have HB := am (Below.refl w.heap.size w)
 have H : (if (l0.length : Int) > 4000 then (some (([] : List Int), 6)) else (gangwayref13_Write.l0 k l0 ([] : List Int) 0)) = some (r1, r2) := h
 clear h
 by_cases c2 : (l0.length : Int) > 4000
 ·
  rw [if_pos c2] at H
  have c2b0 : decide (4000 < (l0.length : Int)) = true := decide_eq_true c2
  have c2b1 : decide (4000 < l0.length) = true := decide_eq_true (by omega)
  clear c2
  simp only [Option.some.injEq, Prod.mk.injEq] at H
  obtain ⟨rfl, rfl⟩ := H
  go_enter Try.func60, Try.ntmps60
  go_wp2
  go_ret2
  exact ⟨_, rfl, by first | exact Kd.R_nil _ _ _ _ _ | exact Kd.N_nil _ _ _ _ _, by exact bl_g HB.out⟩
 rw [if_neg c2] at H
 have c2b0 : decide (4000 < (l0.length : Int)) = false := decide_eq_false c2
 have c2b1 : decide (4000 < l0.length) = false := decide_eq_false (by omega)
 clear c2
 have H' := am H
 clear H
 go_enter Try.func60, Try.ntmps60
 go_wp2
 go_loopg [4, 5] k (fun kq v4 v5 w' => ∃ (x4_1 : List Int) (x5_1 : Int), v5 = .int .i64 x5_1 ∧ Aside0 (gangwayref13_Write.l0 kq l0 x4_1 x5_1 = some (r1, r2)) ∧ Aside0 (kq ≤ k) ∧ Aside0 (Kd.R (Kd.int .u8) 5 w' w.heap.size (fun _ => True) v4 x4_1) ∧ Aside0 (Below w.heap.size w w'))
 case atStart => exact ⟨(([] : List Int)), (0), (by first | rfl | (simp; done) | (simp [*]; done)), H', ⟨Nat.le_refl _⟩, ⟨by first | exact Kd.R_nil _ _ _ _ _ | exact Kd.N_nil _ _ _ _ _⟩, ⟨by exact bl_g HB.out⟩⟩
 case round =>
  clear H'
  try clear c2
  try clear c2b0
  try clear c2b1
  try clear p2
  obtain ⟨x4_1, x5_1, rfl, HA, HK1, HO_4, HB⟩ := hrel
  cases gk with
  | zero => exact absurd HA.out (by simp [gangwayref13_Write.l0])
  | succ k1 =>
   have H := HA.out
   clear HA
   simp only [gangwayref13_Write.l0] at H
   by_cases c3 : x5_1 < (l0.length : Int)
   rotate_left
   ·
    rw [if_neg c3] at H
    have c3b0 : decide (x5_1 < (l0.length : Int)) = false := decide_eq_false c3
    clear c3
    simp only [Option.some.injEq, Prod.mk.injEq] at H
    obtain ⟨rfl, rfl⟩ := H
    go_wp2
    go_ret2
    exact ⟨_, rfl, by (with_reducible repeat (first | apply Kd.R_alloc | apply Kd.R_drewN | apply Kd.R_drew)); exact HO_4.out, by exact bl_g HB.out⟩
   rw [if_pos c3] at H
   have c3b0 : decide (x5_1 < (l0.length : Int)) = true := decide_eq_true c3
   clear c3
   by_cases c4 : 0 ≤ x5_1
   rotate_left
   ·
    rw [if_neg c4] at H
    exact absurd H (by simp)
   rw [if_pos c4] at H
   have c4b0 : decide (0 ≤ x5_1) = true := decide_eq_true c4
   clear c4
   replace H := Option.bind_eq_some_iff.mp H
   obtain ⟨t102, A50, H⟩ := H
   replace H : (if t102 = true then ((gangwayref13_one.f k1 ((rd_T97 l0 x5_1).f0) ((rd_T97 l0 x5_1).f1) ((rd_T97 l0 x5_1).f2)).bind fun t104 => (if x4_1.length + t104.length < 140737488355328 then (gangwayref13_Write.l0 k1 l0 (x4_1 ++ t104) (wrap64 (x5_1 + 1))) else (none))) else (some (([] : List Int), 130))) = some (r1, r2) := H
   have A5 := am A50
   clear A50
   by_cases c6 : t102 = true
   rotate_left
   ·
    replace c6 := Bool.eq_false_iff.mpr c6
    subst c6
    replace H : (some (([] : List Int), 130)) = some (r1, r2) := by rw [if_neg (show ¬ (false = true) by decide)] at H; exact H
    simp only [Option.some.injEq, Prod.mk.injEq] at H
    obtain ⟨rfl, rfl⟩ := H
    have p101 : 0 ≤ (x5_1 : Int) := od
    have q101 : x5_1 < (l0.length : Int) := od
    obtain ⟨ad101, e101, hx101_0, hx101_1, hx101_2⟩ := at_T97 HR0.out x5_1 p101 q101
    cases e101
    replace hx101_0 := oc HB.out hx101_0
    replace hx101_1 := oc HB.out hx101_1
    replace hx101_2 := oc HB.out hx101_2
    replace p101 := eq_true p101
    replace q101 := eq_true q101
    go_wp2_with (first | ((with_reducible refine gate_callee (f := 80) rfl ?_); refine goesL_ (some 19) rfl rfl Try.func80 (by kernel_rfl) rfl #[.agg #[.int .i64 ((rd_T97 l0 x5_1).f0), .int .i64 ((rd_T97 l0 x5_1).f1), .int .i64 ((rd_T97 l0 x5_1).f2)]] rfl (by simp only [ml]; try rfl) ?_; (with_reducible refine (gangwayref13_May.calls k1 ((rd_T97 l0 x5_1).f0) ((rd_T97 l0 x5_1).f1) ((rd_T97 l0 x5_1).f2) false _ A5.out).mono ?_); rintro e w13 ⟨rfl, hb⟩; refine ⟨_, rfl, ?_⟩; refine mv2 (am (Kd.R_below (Kd.R_o HO_4.out) hb)) (am (below_step (by exact bl_o HB.out) hb)) ?_; clear HO_4 HB; intro HO_4 HB))
    go_ret2
    exact ⟨_, rfl, by first | exact Kd.R_nil _ _ _ _ _ | exact Kd.N_nil _ _ _ _ _, by exact bl_g HB.out⟩
   subst c6
   replace H : ((gangwayref13_one.f k1 ((rd_T97 l0 x5_1).f0) ((rd_T97 l0 x5_1).f1) ((rd_T97 l0 x5_1).f2)).bind fun t104 => (if x4_1.length + t104.length < 140737488355328 then (gangwayref13_Write.l0 k1 l0 (x4_1 ++ t104) (wrap64 (x5_1 + 1))) else (none))) = some (r1, r2) := by rw [if_pos rfl] at H; exact H
   replace H := Option.bind_eq_some_iff.mp H
   obtain ⟨t104, A70, H⟩ := H
   replace H : (if x4_1.length + t104.length < 140737488355328 then (gangwayref13_Write.l0 k1 l0 (x4_1 ++ t104) (wrap64 (x5_1 + 1))) else (none)) = some (r1, r2) := H
   have A7 := am A70
   clear A70
   by_cases c8 : x4_1.length + t104.length < 140737488355328
   rotate_left
   ·
    rw [if_neg c8] at H
    exact absurd H (by simp)
   rw [if_pos c8] at H
   have LMc8 := am c8
   clear c8
   obtain ⟨y107, hy107⟩ : ∃ y_ : List Int, y_ = (x4_1 ++ t104) := ⟨_, rfl⟩
   replace H : (gangwayref13_Write.l0 k1 l0 y107 (wrap64 (x5_1 + 1))) = some (r1, r2) := by first | (rw [hy107]; with_reducible exact H) | (have H2_ := (Option.bind_some _ _).symm.trans H; rw [hy107]; with_reducible exact H2_)
   have Ny107 := am hy107
   clear hy107
   have H' := am H
   clear H
   have p101 : 0 ≤ (x5_1 : Int) := od
   have q101 : x5_1 < (l0.length : Int) := od
   obtain ⟨ad101, e101, hx101_0, hx101_1, hx101_2⟩ := at_T97 HR0.out x5_1 p101 q101
   cases e101
   replace hx101_0 := oc HB.out hx101_0
   replace hx101_1 := oc HB.out hx101_1
   replace hx101_2 := oc HB.out hx101_2
   replace p101 := eq_true p101
   replace q101 := eq_true q101
   go_wp2_with (first | ((with_reducible refine gate_callee (f := 80) rfl ?_); refine goesL_ (some 19) rfl rfl Try.func80 (by kernel_rfl) rfl #[.agg #[.int .i64 ((rd_T97 l0 x5_1).f0), .int .i64 ((rd_T97 l0 x5_1).f1), .int .i64 ((rd_T97 l0 x5_1).f2)]] rfl (by simp only [ml]; try rfl) ?_; (with_reducible refine (gangwayref13_May.calls k1 ((rd_T97 l0 x5_1).f0) ((rd_T97 l0 x5_1).f1) ((rd_T97 l0 x5_1).f2) true _ A5.out).mono ?_); rintro e w9 ⟨rfl, hb⟩; refine ⟨_, rfl, ?_⟩; refine mv2 (am (Kd.R_below (Kd.R_o HO_4.out) hb)) (am (below_step (by exact bl_o HB.out) hb)) ?_; clear HO_4 HB; intro HO_4 HB; have p103 : 0 ≤ (x5_1 : Int) := od; have q103 : x5_1 < (l0.length : Int) := od; obtain ⟨ad103, e103, hx103_0, hx103_1, hx103_2⟩ := at_T97 HR0.out x5_1 p103 q103; obtain rfl : ad101 = ad103 := (by injection e103); replace hx103_0 := oc HB.out hx103_0; replace hx103_1 := oc HB.out hx103_1; replace hx103_2 := oc HB.out hx103_2; replace p103 := eq_true p103; replace q103 := eq_true q103) | ((with_reducible refine gate_callee (f := 81) rfl ?_); refine goesL_ (some 26) rfl rfl Try.func81 (by kernel_rfl) rfl #[.agg #[.int .i64 ((rd_T97 l0 x5_1).f0), .int .i64 ((rd_T97 l0 x5_1).f1), .int .i64 ((rd_T97 l0 x5_1).f2)]] rfl (by simp only [ml]; try rfl) ?_; (with_reducible refine (gangwayref13_one.calls k1 ((rd_T97 l0 x5_1).f0) ((rd_T97 l0 x5_1).f1) ((rd_T97 l0 x5_1).f2) t104 _ A7.out).mono ?_); rintro e w10 ⟨v105, rfl, ho0, hb⟩; refine ⟨_, rfl, ?_⟩; refine mv3 (am (Kd.R_elder' (Kd.R_o HO_4.out) (Kd.R_base ho0) hb)) (am (Kd.R_lower (Kd.R_new' ho0 (Kd.R_lt (Kd.R_o HO_4.out))) (below_size (by exact bl_o HB.out)))) (am (below_step (by exact bl_o HB.out) hb)) ?_; clear HO_4 HB; intro HO_4 HO106 HB; obtain ⟨Ao12, co12, eo12⟩ := Kd.R_slice HO106.out; subst eo12) | ((with_reducible refine gate_builtin (b := .append) (xs := #[.tmp 21, .tmp 26]) rfl ?_); at_builtin; refine Kd.R_append_rows (Kd.int .u8) (w0 := w) w.heap.size rfl (.tmp 21) (.tmp 26) 28 5 (.int .u8 0) 1 rfl Try.underlying28 info5 rfl (by decide) (by omega) u4 x4_1 t104 _ _ _ (fun k_ => some k_ ≠ (.slice Ao12 t104.length co12 : Value).ownBlock) (fun _ => False) rfl rfl ?aO ?aR (fun _ _ h => h) (fun _ h => h.elim) ?aF ?aB ?aS ?aL ?_; (case aR => exact Kd.C_o ((Kd.R_reads' HO106.out).2.2)); (case aB => exact (by exact bl_o HB.out)); (case aF => exact (fun k_ hk => Kd.fresh' (Kd.R_lt (Kd.R_o HO106.out)) k_ hk)); (case aO => exact (Kd.R_o (Kd.R_mono HO_4.out (fun _ hk => hk.2)))); (case aS => exact (below_size (by exact bl_o HB.out))); (case aL => have := LMc8.out; omega); intro v108 w11 ho hb hg hat; rw [← Ny107.out] at ho; refine mv3 (am (Kd.R_after (ok := (fun _ => True)) (Kd.R_o HO106.out) hg hat)) (am (hb)) (am (ho)) ?_; clear HO106 HB HO_4; intro HO106 HB HO109; clear ho hb hg hat))
   go_roundg k1
   case measure => have := HK1.out; omega
   case rel => exact ⟨(y107), (wrap64 (x5_1 + 1)), (by first | rfl | (simp; done) | (simp [*]; done)), H', ⟨by have := HK1.out; omega⟩, ⟨by (with_reducible repeat (first | apply Kd.R_alloc | apply Kd.R_drewN | apply Kd.R_drew)); exact Kd.R_mono HO109.out (fun _ hk => trivial)⟩, ⟨by exact bl_g HB.out⟩⟩
def gangwayref14_four.f (k : Nat) (a0 : Int) : Option (List Int) := (gangwayref01_Put.f k a0 4).bind fun bt101 => (some bt101.1)
set_option maxHeartbeats 8000000 in
theorem gangwayref14_four.calls (k : Nat) (a0 : Int) (r : List Int) (w : World) (h : gangwayref14_four.f k a0 = some r) :
    Calls Try.prog 61 #[.int .i64 a0] w fun e w' => ∃ v0_ : Value, e = .returned (v0_) ∧ Kd.R (Kd.int .u8) 5 w' w.heap.size (fun _ => True) v0_ r ∧ Below w.heap.size w w' := by
 have HB := am (Below.refl w.heap.size w)
 have H : ((gangwayref01_Put.f k a0 4).bind fun bt101 => (some bt101.1)) = some r := h
 clear h
 replace H := Option.bind_eq_some_iff.mp H
 obtain ⟨⟨t101, t102⟩, A20, H⟩ := H
 replace H : (some t101) = some r := H
 have A2 := am A20
 clear A20
 obtain rfl := Option.some.inj H
 go_enter Try.func61, Try.ntmps61
 go_wp2_with (first | ((with_reducible refine gate_callee (f := 47) rfl ?_); refine goesL_ (some 7) rfl rfl Try.func47 (by kernel_rfl) rfl #[.int .i64 a0, .int .i64 4] rfl (by simp only [ml]; try rfl) ?_; (with_reducible refine (gangwayref01_Put.calls k a0 4 t101 t102 _ A2.out).mono ?_); rintro e w3 ⟨v103, rfl, ho0, hb⟩; refine ⟨_, rfl, ?_⟩; refine mv2 (am (Kd.R_lower ho0 (below_size (by exact bl_o HB.out)))) (am (below_step (by exact bl_o HB.out) hb)) ?_; clear HB; intro HO104 HB))
 go_ret
 exact ⟨_, rfl, by (with_reducible repeat (first | apply Kd.R_alloc | apply Kd.R_drewN | apply Kd.R_drew)); exact HO104.out, by exact bl_g HB.out⟩
def gangwayref14_record.l0 : Nat → List Int → Option (List Int)
  | 0, _ => none
  | k + 1, x0 => if (Int.tmod (wrap64 ((x0.length : Int) + 4)) 8) = 0 then ((gangwayref14_four.f k (x0.length : Int)).bind fun t101 => (if t101.length + x0.length < 140737488355328 then (some (t101 ++ x0)) else (none))) else (if x0.length < 140737488355328 then (gangwayref14_record.l0 k (x0 ++ [0])) else (none))
def gangwayref14_record.f (k : Nat) (l0 : List Int) : Option (List Int) := gangwayref14_record.l0 k l0
set_option maxHeartbeats 8000000 in
theorem gangwayref14_record.calls (k : Nat) (P0_ : Nat → Prop) (u9000_ : Value) (l0 : List Int) (r : List Int) (w0 w : World) (hB : Below w0.heap.size w0 w) (ho0 : Kd.R (Kd.int .u8) 5 w w0.heap.size P0_ u9000_ l0) (h : gangwayref14_record.f k l0 = some r) :
    Calls Try.prog 62 #[u9000_] w fun e w' => ∃ v0_ : Value, e = .returned (v0_) ∧ Kd.R (Kd.int .u8) 5 w' w0.heap.size (fun k_ => (P0_ k_ ∨ w.heap.size ≤ k_)) v0_ r ∧ Below w0.heap.size w0 w' ∧ Kept w w' (fun k_ => P0_ k_) := by
 have HO0 := am (show Kd.R (Kd.int .u8) 5 w w0.heap.size (fun k_ => (P0_ k_ ∨ w.heap.size ≤ k_)) u9000_ l0 from Kd.R_mono ho0 (fun k_ hk => (.inl hk)))
 have HK := am (Kept.refl w (fun k_ => P0_ k_))
 have HW0 := am hB.size
 have HB := am hB
 clear hB
 have H : (gangwayref14_record.l0 k l0) = some r := h
 clear h
 have H' := am H
 clear H
 go_enter Try.func62, Try.ntmps62
 go_wp2
 go_loopg [0] k (fun kq v0 w' => ∃ (x0_1 : List Int), Aside0 (gangwayref14_record.l0 kq x0_1 = some r) ∧ Aside0 (kq ≤ k) ∧ Aside0 (Kd.R (Kd.int .u8) 5 w' w0.heap.size (fun k_ => (P0_ k_ ∨ w.heap.size ≤ k_)) v0 x0_1) ∧ Aside0 (Kept w w' (fun k_ => P0_ k_)) ∧ Aside0 (Below w0.heap.size w0 w'))
 case atStart => exact ⟨(l0), H', ⟨Nat.le_refl _⟩, ⟨by (with_reducible repeat (first | apply Kd.R_alloc | apply Kd.R_drewN | apply Kd.R_drew)); exact HO0.out⟩, ⟨by repeat (first | (with_reducible first | exact HK.out | apply Kept.alloc | apply Kept.drewN | apply Kept.drew) | exact HK.out)⟩, ⟨by exact bl_g HB.out⟩⟩
 case round =>
  clear H'
  obtain ⟨x0_1, HA, HK1, HO_0, HK, HB⟩ := hrel
  cases gk with
  | zero => exact absurd HA.out (by simp [gangwayref14_record.l0])
  | succ k1 =>
   have H := HA.out
   clear HA
   simp only [gangwayref14_record.l0] at H
   by_cases c2 : (Int.tmod (wrap64 ((x0_1.length : Int) + 4)) 8) = 0
   ·
    rw [if_pos c2] at H
    have c2b0 : ((Int.tmod (wrap64 ((x0_1.length : Int) + 4)) 8) == 0) = true := beq_iff_eq.mpr c2
    have c2b1 : ((Int.tmod (wrap64 ((x0_1.length : Int) + 4)) 8) != 0) = false := bne_eq_false_iff_eq.mpr c2
    clear c2
    replace H := Option.bind_eq_some_iff.mp H
    obtain ⟨t101, A30, H⟩ := H
    replace H : (if t101.length + x0_1.length < 140737488355328 then (some (t101 ++ x0_1)) else (none)) = some r := H
    have A3 := am A30
    clear A30
    by_cases c4 : t101.length + x0_1.length < 140737488355328
    rotate_left
    ·
     rw [if_neg c4] at H
     exact absurd H (by simp)
    rw [if_pos c4] at H
    have LMc4 := am c4
    clear c4
    obtain ⟨y104, hy104⟩ : ∃ y_ : List Int, y_ = (t101 ++ x0_1) := ⟨_, rfl⟩
    replace H : (some y104) = some r := by first | (rw [hy104]; with_reducible exact H) | (have H2_ := (Option.bind_some _ _).symm.trans H; rw [hy104]; with_reducible exact H2_)
    have Ny104 := am hy104
    clear hy104
    obtain rfl := Option.some.inj H
    obtain ⟨Ao5, co5, eo5⟩ := Kd.R_slice HO_0.out
    subst eo5
    go_wp2_with (first | ((with_reducible refine gate_callee (f := 61) rfl ?_); refine goesL_ (some 13) rfl rfl Try.func61 (by kernel_rfl) rfl #[.int .i64 (x0_1.length : Int)] rfl (by simp only [ml]; try rfl) ?_; (with_reducible refine (gangwayref14_four.calls k1 (x0_1.length : Int) t101 _ A3.out).mono ?_); rintro e w6 ⟨v102, rfl, ho0, hb⟩; refine ⟨_, rfl, ?_⟩; refine mv4 (am (Kd.R_elder' (Kd.R_o HO_0.out) (Kd.R_base ho0) hb)) (am (Kd.R_lower (Kd.R_new' (Kd.R_newM (M := fun k_ => (P0_ k_ ∨ w.heap.size ≤ k_)) ho0 (by first | exact HK.out.1 | exact (show Kept w _ (fun k_ => P0_ k_) from by repeat (first | (with_reducible first | exact HK.out | apply Kept.alloc | apply Kept.drewN | apply Kept.drew) | exact HK.out)).1) (fun k_ h_ => .inr h_)) (Kd.R_lt (Kd.R_o HO_0.out))) (below_size (by exact bl_o HB.out)))) (am (Kept.below (S := (fun k_ => P0_ k_)) (by repeat (first | (with_reducible first | exact HK.out | apply Kept.alloc | apply Kept.drewN | apply Kept.drew) | exact HK.out)) hb)) (am (below_step (by exact bl_o HB.out) hb)) ?_; clear HO_0 HK HB; intro HO_0 HO103 HK HB) | ((with_reducible refine gate_builtin (b := .append) (xs := #[.tmp 13, .tmp 14]) rfl ?_); at_builtin; refine Kd.R_append_rows (Kd.int .u8) (w0 := w0) w0.heap.size rfl (.tmp 13) (.tmp 14) 28 5 (.int .u8 0) 1 rfl Try.underlying28 info5 rfl (by decide) (by omega) v102 t101 x0_1 _ _ _ (fun k_ => (P0_ k_ ∨ w.heap.size ≤ k_) ∧ some k_ ≠ (.slice Ao5 x0_1.length co5 : Value).ownBlock) (fun _ => False) rfl rfl ?aO ?aR (fun _ _ h => h) (fun _ h => h.elim) ?aF ?aB ?aS ?aL ?_; (case aR => exact Kd.C_o ((Kd.R_reads' HO_0.out).2.2)); (case aB => exact (by exact bl_o HB.out)); (case aF => exact (fun k_ hk => ⟨(.inr (Nat.le_trans (by first | exact HK.out.1 | exact (show Kept w _ (fun k_ => P0_ k_) from by repeat (first | (with_reducible first | exact HK.out | apply Kept.alloc | apply Kept.drewN | apply Kept.drew) | exact HK.out)).1) hk)), Kd.fresh' (Kd.R_lt (Kd.R_o HO_0.out)) k_ hk⟩)); (case aO => exact (Kd.R_o (Kd.R_mono HO103.out (fun _ hk => ⟨hk.1.1, hk.2⟩)))); (case aS => exact (below_size (by exact bl_o HB.out))); (case aL => have := LMc4.out; omega); intro v105 w7 ho hb hg hat; rw [← Ny104.out] at ho; refine mv4 (am (Kd.R_after (ok := (fun k_ => (P0_ k_ ∨ w.heap.size ≤ k_))) (Kd.R_o HO_0.out) hg hat)) (am (hb)) (am (Kept.of_grown (S := (fun k_ => P0_ k_)) hg (by repeat (first | (with_reducible first | exact HK.out | apply Kept.alloc | apply Kept.drewN | apply Kept.drew) | exact HK.out)) (fun k_ e_ => (HO103.out.1 k_ e_).1.1))) (am (ho)) ?_; clear HO_0 HB HK HO103; intro HO_0 HB HK HO106; clear ho hb hg hat))
    go_ret
    exact ⟨_, rfl, by (with_reducible repeat (first | apply Kd.R_alloc | apply Kd.R_drewN | apply Kd.R_drew)); exact Kd.R_mono HO106.out (fun _ hk => hk.1), by exact bl_g HB.out, by repeat (first | (with_reducible first | exact HK.out | apply Kept.alloc | apply Kept.drewN | apply Kept.drew) | exact HK.out)⟩
   rw [if_neg c2] at H
   have c2b0 : ((Int.tmod (wrap64 ((x0_1.length : Int) + 4)) 8) == 0) = false := beq_eq_false_iff_ne.mpr c2
   have c2b1 : ((Int.tmod (wrap64 ((x0_1.length : Int) + 4)) 8) != 0) = true := bne_iff_ne.mpr c2
   by_cases c8 : x0_1.length < 140737488355328
   rotate_left
   ·
    rw [if_neg c8] at H
    exact absurd H (by simp)
   rw [if_pos c8] at H
   have LMc8 := am c8
   clear c8
   obtain ⟨y107, hy107⟩ : ∃ y_ : List Int, y_ = (x0_1 ++ [0]) := ⟨_, rfl⟩
   replace H : (gangwayref14_record.l0 k1 y107) = some r := by first | (rw [hy107]; with_reducible exact H) | (have H2_ := (Option.bind_some _ _).symm.trans H; rw [hy107]; with_reducible exact H2_)
   have Ny107 := am hy107
   clear hy107
   have H' := am H
   clear H
   obtain ⟨Ao9, co9, eo9⟩ := Kd.R_slice HO_0.out
   subst eo9
   go_wp2_with (first | ((with_reducible refine gate_builtin (b := .append) (xs := #[.tmp 8, .tmp 9]) rfl ?_); at_builtin; refine Kd.R_append (Kd.int .u8) (w0 := w0) w0.heap.size rfl (.tmp 8) (.tmp 9) 28 5 (.int .u8 0) 1 rfl Try.underlying28 info5 rfl (by decide) (by omega) (.slice Ao9 x0_1.length co9) x0_1 0 [.int .u8 0] (fun k_ => (P0_ k_ ∨ w.heap.size ≤ k_)) (fun _ => False) rfl rfl ?aP (fun _ hk => hk.elim) ?aF ?aO ?aB ?aS ?aL ?_; (case aP => exact rfl); (case aB => exact (by exact bl_o HB.out)); (case aF => exact (fun k_ hk => (.inr (Nat.le_trans (by first | exact HK.out.1 | exact (show Kept w _ (fun k_ => P0_ k_) from by repeat (first | (with_reducible first | exact HK.out | apply Kept.alloc | apply Kept.drewN | apply Kept.drew) | exact HK.out)).1) hk)))); (case aO => exact (Kd.R_o HO_0.out)); (case aS => exact (below_size (by exact bl_o HB.out))); (case aL => have := LMc8.out; omega); intro v108 w10 ho hb hg hat; rw [← Ny107.out] at ho; refine mv3 (am (hb)) (am (Kept.of_grown (S := (fun k_ => P0_ k_)) hg (by repeat (first | (with_reducible first | exact HK.out | apply Kept.alloc | apply Kept.drewN | apply Kept.drew) | exact HK.out)) (fun k_ e_ => (HO_0.out.1 k_ e_)))) (am (ho)) ?_; clear HB HK HO_0; intro HB HK HO109; clear ho hb hg hat))
   go_roundg k1
   case measure => have := HK1.out; omega
   case rel => exact ⟨(y107), H', ⟨by have := HK1.out; omega⟩, ⟨by (with_reducible repeat (first | apply Kd.R_alloc | apply Kd.R_drewN | apply Kd.R_drew)); exact HO109.out⟩, ⟨by repeat (first | (with_reducible first | exact HK.out | apply Kept.alloc | apply Kept.drewN | apply Kept.drew) | exact HK.out)⟩, ⟨by exact bl_g HB.out⟩⟩
def gangwayref14_cie.f (k : Nat) (a0_0 : Int) (l0_1 : List (S97)) : Option (List Int) := (gangwayref13_Write.f k l0_1).bind fun bt102 => ((gangwayref14_four.f k 0).bind fun t106 => ((some (([1, 122, 82, 0, 1, 120, 16, 1, (a0_0) % 256] : List Int) : List Int)).bind fun y109 => (if t106.length + y109.length < 140737488355328 then ((some (t106 ++ y109 : List Int)).bind fun y112 => (if y112.length + bt102.1.length < 140737488355328 then ((gangwayref14_record.f k (y112 ++ bt102.1)).bind fun t118 => (some t118)) else (none))) else (none))))
set_option maxHeartbeats 8000000 in
theorem gangwayref14_cie.calls (k : Nat) (a0_0 : Int) (A0_1 : Option Addr) (c0_1 : Nat) (l0_1 : List (S97)) (r : List Int) (w : World) (hr0_1 : Kd.C k97 w A0_1 l0_1.length l0_1) (hc0_1 : l0_1.length ≤ c0_1) (h : gangwayref14_cie.f k a0_0 l0_1 = some r) :
    Calls Try.prog 27 #[.agg #[.int .i64 a0_0, .slice A0_1 l0_1.length c0_1]] w fun e w' => ∃ v0_ : Value, e = .returned (v0_) ∧ Kd.R (Kd.int .u8) 5 w' w.heap.size (fun _ => True) v0_ r ∧ Below w.heap.size w w' := by
 have hu43 := Try.underlying43
 have HR0_1 := am hr0_1
 have HC0_1 := am hc0_1
 clear hr0_1 hc0_1
 have HB := am (Below.refl w.heap.size w)
 have H : ((gangwayref13_Write.f k l0_1).bind fun bt102 => ((gangwayref14_four.f k 0).bind fun t106 => ((some (([1, 122, 82, 0, 1, 120, 16, 1, (a0_0) % 256] : List Int) : List Int)).bind fun y109 => (if t106.length + y109.length < 140737488355328 then ((some (t106 ++ y109 : List Int)).bind fun y112 => (if y112.length + bt102.1.length < 140737488355328 then ((gangwayref14_record.f k (y112 ++ bt102.1)).bind fun t118 => (some t118)) else (none))) else (none))))) = some r := h
 clear h
 replace H := Option.bind_eq_some_iff.mp H
 obtain ⟨⟨t102, t103⟩, A20, H⟩ := H
 replace H : ((gangwayref14_four.f k 0).bind fun t106 => ((some (([1, 122, 82, 0, 1, 120, 16, 1, (a0_0) % 256] : List Int) : List Int)).bind fun y109 => (if t106.length + y109.length < 140737488355328 then ((some (t106 ++ y109 : List Int)).bind fun y112 => (if y112.length + t102.length < 140737488355328 then ((gangwayref14_record.f k (y112 ++ t102)).bind fun t118 => (some t118)) else (none))) else (none)))) = some r := H
 have A2 := am A20
 clear A20
 replace H := Option.bind_eq_some_iff.mp H
 obtain ⟨t106, A30, H⟩ := H
 replace H : ((some (([1, 122, 82, 0, 1, 120, 16, 1, (a0_0) % 256] : List Int) : List Int)).bind fun y109 => (if t106.length + y109.length < 140737488355328 then ((some (t106 ++ y109 : List Int)).bind fun y112 => (if y112.length + t102.length < 140737488355328 then ((gangwayref14_record.f k (y112 ++ t102)).bind fun t118 => (some t118)) else (none))) else (none))) = some r := H
 have A3 := am A30
 clear A30
 obtain ⟨y109, hy109⟩ : ∃ y_ : List Int, y_ = (([1, 122, 82, 0, 1, 120, 16, 1, (a0_0) % 256] : List Int)) := ⟨_, rfl⟩
 replace H : (if t106.length + y109.length < 140737488355328 then ((some (t106 ++ y109 : List Int)).bind fun y112 => (if y112.length + t102.length < 140737488355328 then ((gangwayref14_record.f k (y112 ++ t102)).bind fun t118 => (some t118)) else (none))) else (none)) = some r := by first | (rw [hy109]; with_reducible exact H) | (have H2_ := (Option.bind_some _ _).symm.trans H; rw [hy109]; with_reducible exact H2_)
 have Ny109 := am hy109
 clear hy109
 by_cases c4 : t106.length + y109.length < 140737488355328
 rotate_left
 ·
  rw [if_neg c4] at H
  exact absurd H (by simp)
 rw [if_pos c4] at H
 have LMc4 := am c4
 clear c4
 obtain ⟨y112, hy112⟩ : ∃ y_ : List Int, y_ = (t106 ++ y109) := ⟨_, rfl⟩
 replace H : (if y112.length + t102.length < 140737488355328 then ((gangwayref14_record.f k (y112 ++ t102)).bind fun t118 => (some t118)) else (none)) = some r := by first | (rw [hy112]; with_reducible exact H) | (have H2_ := (Option.bind_some _ _).symm.trans H; rw [hy112]; with_reducible exact H2_)
 have Ny112 := am hy112
 clear hy112
 by_cases c5 : y112.length + t102.length < 140737488355328
 rotate_left
 ·
  rw [if_neg c5] at H
  exact absurd H (by simp)
 rw [if_pos c5] at H
 have LMc5 := am c5
 clear c5
 obtain ⟨y115, hy115⟩ : ∃ y_ : List Int, y_ = (y112 ++ t102) := ⟨_, rfl⟩
 replace H : ((gangwayref14_record.f k y115).bind fun t118 => (some t118)) = some r := by first | (rw [hy115]; with_reducible exact H) | (have H2_ := (Option.bind_some _ _).symm.trans H; rw [hy115]; with_reducible exact H2_)
 have Ny115 := am hy115
 clear hy115
 replace H := Option.bind_eq_some_iff.mp H
 obtain ⟨t118, A60, H⟩ := H
 replace H : (some t118) = some r := H
 have A6 := am A60
 clear A60
 obtain rfl := Option.some.inj H
 go_enter Try.func27, Try.ntmps27
 try go_wp2_with (first | ((with_reducible refine gate_dst (N := 1) rfl ?_); refine box_event ?hg (N := 1) ?hd (cs := #[.int .i64 a0_0, .slice A0_1 l0_1.length c0_1]) (t := 43) ?hr ?_; (case hd => rfl); (case hg => rfl); (case hr => go_simp; try rfl); intro gb101 hg w7 hbox hb; refine mv3 (am (below_step (by exact bl_o HB.out) hb)) (am (hbox)) (lei (by rw [hg]; exact (below_size (by exact bl_o HB.out)) : w.heap.size ≤ gb101)) ?_; clear HB; intro HB BK101 GW101; have GE101 := GW101; clear hb hbox hg; obtain ⟨hcz8_0, hcz8_1, hfz8_0, hfz8_1⟩ := cells2 BK101.out) | ((with_reducible refine gate_callee (f := 60) rfl ?_); refine goesL_ (some 9) rfl rfl Try.func60 (by kernel_rfl) rfl #[.slice A0_1 l0_1.length c0_1] rfl (by simp only [ml]; try rfl) ?_; (with_reducible refine (gangwayref13_Write.calls k _ _ l0_1 t102 t103 _ ?side1 ?side2 A2.out).mono ?_); (case side1 => exact Kd.C_o (Kd.C_below HR0_1.out HB.out)); (case side2 => exact HC0_1.out); rintro e w9 ⟨v104, rfl, ho0, hb⟩; refine ⟨_, rfl, ?_⟩; refine mv3 (am (Kd.R_lower ho0 (below_size (by exact bl_g HB.out)))) (am (blk_below (blk_o BK101.out) hb)) (am (below_step (by exact bl_g HB.out) hb)) ?_; clear BK101 HB; intro HO105 BK101 HB))
 have n0_ := am (Kd.R_drew HO105.out)
 have n1_ := am (blk_drew BK101.out)
 have n2_ := am (below_drew1 HB.out)
 clear HO105
 clear BK101
 clear HB
 have HO105 := n0_
 have BK101 := n1_
 have HB := n2_
 clear n0_ n1_ n2_
 refine start_ (n := 7) (S := fun w' => w'.cell? ⟨gb101, 0, none⟩ = some (.int .i64 a0_0) ∧ w'.cell? ⟨gb101, 1, none⟩ = some (.slice A0_1 l0_1.length c0_1)) (ds := []) (bm 7 0) (by kernel_rfl) rfl rfl ⟨(blk_cell BK101.out 0).trans rfl, (blk_cell BK101.out 1).trans rfl⟩ (fun hHeld => ?_)
 generalize w9.drew = w10 at HO105 BK101 HB hHeld ⊢
 refine pure_ (i := 1) (N := some 13) (v := ?_) (a' := ?_) (bm 7 2) rfl rfl (by kernel_rfl) (fun _ _ _ h => h) (Or.inl ⟨by rfl, ?_⟩) ?_ ?_
 rotate_left
 ·
  intro w'
  go_simp
  with_reducible rfl
 rotate_left
 ·
  simp only [pz]
  rfl
 refine take_ (i := 2) (N := some 14) (v := ?_) (a' := ?_) (bm 7 6) rfl rfl (by kernel_rfl) (fun _ _ _ h => h) (Or.inl ⟨by rfl, ?_⟩) hHeld ?_ ?_
 rotate_left
 ·
  rintro w' ⟨s0, s1⟩
  go_simp
  with_reducible rfl
 rotate_left
 ·
  simp only [pz]
  rfl
 refine pure_ (i := 3) (N := some 15) (v := ?_) (a' := ?_) (bm 7 14) rfl rfl (by kernel_rfl) (fun _ _ _ h => h) (Or.inl ⟨by rfl, ?_⟩) ?_ ?_
 rotate_left
 ·
  intro w'
  go_simp
  with_reducible rfl
 rotate_left
 ·
  simp only [pz]
  rfl
 refine join_ (σ := Value × Value) 2 (bm 7 31) (fun s_ => [(12, s_.1), (16, s_.2)]) (fun s_ w' => (w'.cell? ⟨gb101, 0, none⟩ = some (.int .i64 a0_0) ∧ w'.cell? ⟨gb101, 1, none⟩ = some (.slice A0_1 l0_1.length c0_1)) ∧ (Kd.R (Kd.int .u8) 5 w' w.heap.size (fun k_ => some k_ ≠ (s_.1 : Value).ownBlock ∧ some k_ ≠ (s_.2 : Value).ownBlock) v104 t102) ∧ (Kd.R (Kd.int .u8) 5 w' w.heap.size (fun k_ => some k_ ≠ (v104 : Value).ownBlock ∧ some k_ ≠ (s_.2 : Value).ownBlock) s_.1 t106) ∧ (Kd.R (Kd.int .u8) 5 w' w.heap.size (fun k_ => some k_ ≠ (v104 : Value).ownBlock ∧ some k_ ≠ (s_.1 : Value).ownBlock) s_.2 y109) ∧ (w'.heap[gb101]? = some (.cells #[.int .i64 a0_0, .slice A0_1 l0_1.length c0_1] 43 (0, 0))) ∧ (Below w.heap.size w w')) ?_ ?_
 rotate_left
 ·
  intro hCont
  refine two_ (i := 0) (j := 4) (Ni := some 12) (Nj := some 16) (bm 7 15) (bm 7 30) rfl rfl rfl rfl (by kernel_rfl) (by decide) (by decide) (fun K hK => ?_) (fun K hK => ?_)
  ·
   skip
   refine goes_ Try.func61 (by kernel_rfl) rfl #[.int .i64 0] (by rfl) rfl rfl (by simp only [ml]; try rfl) ?_
   with_reducible refine (gangwayref14_four.calls k 0 t106 _ A3.out).mono ?_
   rintro e w11 ⟨v107, rfl, ho0, hb⟩
   refine ⟨_, rfl, ?_⟩
   have n0_ := am (Kd.R_elder' (Kd.R_o HO105.out) (Kd.R_base ho0) hb)
   have n1_ := am (Kd.R_lower (Kd.R_new' ho0 (Kd.R_lt (Kd.R_o HO105.out))) (below_size (by exact bl_g HB.out)))
   have n2_ := am (blk_below (blk_o BK101.out) hb)
   have n3_ := am (below_step (by exact bl_g HB.out) hb)
   clear HO105
   clear BK101
   clear HB
   have HO105 := n0_
   have HO108 := n1_
   have BK101 := n2_
   have HB := n3_
   clear n0_ n1_ n2_ n3_
   (try clear hb)
   (try clear hb2)
   (try clear hk)
   (try clear hi)
   (try clear ho0)
   refine hK.out _ _ ⟨(blk_cell BK101.out 0).trans rfl, (blk_cell BK101.out 1).trans rfl⟩ (fun hHeld => ?_)
   clear hK K
   refine norm_ (a' := ?_) ?_ ?_
   rotate_left
   ·
    show Act.put _ (some 12) _ = _
    simp only [pz]
    rfl
   refine one_ (i := 4) (N := some 16) (bm 7 31) rfl rfl (by kernel_rfl) (by decide) (fun K hK => ?_)
   refine Kd.R_lit_step (Kd.int .u8) _ 5 ?hg (N := 16) ?hd (xs := ([1, 122, 82, 0, 1, 120, 16, 1, (a0_0) % 256] : List Int)) (inner := [.int .u8 1, .int .u8 122, .int .u8 82, .int .u8 0, .int .u8 1, .int .u8 120, .int .u8 16, .int .u8 1, .int .u8 ((a0_0) % 256)]) (ok := fun _ => True) (okp := fun _ => True) ?hr ?hp (fun _ hk => hk) trivial (Below.refl _ _) (Nat.le_refl _) (by simp) ?_; (case hd => rfl); (case hg => rfl); (case hr => go_simp; try rfl); (case hp => exact (Reps.one (show Kd.M (Kd.int .u8) _ _ _ 1 [.int .u8 1] from rfl) (Reps.one (show Kd.M (Kd.int .u8) _ _ _ 122 [.int .u8 122] from rfl) (Reps.one (show Kd.M (Kd.int .u8) _ _ _ 82 [.int .u8 82] from rfl) (Reps.one (show Kd.M (Kd.int .u8) _ _ _ 0 [.int .u8 0] from rfl) (Reps.one (show Kd.M (Kd.int .u8) _ _ _ 1 [.int .u8 1] from rfl) (Reps.one (show Kd.M (Kd.int .u8) _ _ _ 120 [.int .u8 120] from rfl) (Reps.one (show Kd.M (Kd.int .u8) _ _ _ 16 [.int .u8 16] from rfl) (Reps.one (show Kd.M (Kd.int .u8) _ _ _ 1 [.int .u8 1] from rfl) (Reps.one (show Kd.M (Kd.int .u8) _ _ _ ((a0_0) % 256) [.int .u8 ((a0_0) % 256)] from rfl) (Reps.none _ _)))))))))))
   intro v110 w12 ho13 hb hg_ hnew_
   clear hg_ hnew_
   (first | rw [← Ny109.out] at ho13 | (simp only [Int.reduceToNat] at ho13; rw [← Ny109.out] at ho13))
   have n0_ := am (Kd.R_elder' (Kd.R_o HO105.out) (Kd.R_base ho13) hb)
   have n1_ := am (Kd.R_elder' (Kd.R_o HO108.out) (Kd.R_base ho13) hb)
   have n2_ := am (Kd.R_lower (Kd.R_new' (Kd.R_new' ho13 (Kd.R_lt (Kd.R_o HO105.out))) (Kd.R_lt (Kd.R_o HO108.out))) (below_size (by exact bl_g HB.out)))
   have n3_ := am (blk_below (blk_o BK101.out) hb)
   have n4_ := am (below_step (by exact bl_g HB.out) hb)
   clear HO105
   clear HO108
   clear BK101
   clear HB
   have HO105 := n0_
   have HO108 := n1_
   have HO111 := n2_
   have BK101 := n3_
   have HB := n4_
   clear n0_ n1_ n2_ n3_ n4_
   clear hb ho13
   refine hK.out _ _ ⟨(blk_cell BK101.out 0).trans rfl, (blk_cell BK101.out 1).trans rfl⟩ (fun hHeld => ?_)
   clear hK K
   refine norm_ (a' := ?_) ?_ ?_
   rotate_left
   ·
    show Act.put _ (some 16) _ = _
    simp only [pz]
    rfl
   exact norm_ (by simp only [putAll, Act.put, List.setIfInBounds_toArray, List.set_cons_zero, List.set_cons_succ]) (hCont (v107, v110) _ ⟨hHeld, (Kd.R_o (Kd.R_mono HO105.out (fun _ hk => ⟨hk.1.2, hk.2⟩))), (Kd.R_o (Kd.R_mono HO108.out (fun _ hk => ⟨hk.1.2, hk.2⟩))), (Kd.R_o (Kd.R_mono HO111.out (fun _ hk => ⟨hk.1.2, hk.2⟩))), (blk_o BK101.out), (by exact bl_g HB.out)⟩)
  skip
  refine Kd.R_lit_step (Kd.int .u8) _ 5 ?hg (N := 16) ?hd (xs := ([1, 122, 82, 0, 1, 120, 16, 1, (a0_0) % 256] : List Int)) (inner := [.int .u8 1, .int .u8 122, .int .u8 82, .int .u8 0, .int .u8 1, .int .u8 120, .int .u8 16, .int .u8 1, .int .u8 ((a0_0) % 256)]) (ok := fun _ => True) (okp := fun _ => True) ?hr ?hp (fun _ hk => hk) trivial (Below.refl _ _) (Nat.le_refl _) (by simp) ?_; (case hd => rfl); (case hg => rfl); (case hr => go_simp; try rfl); (case hp => exact (Reps.one (show Kd.M (Kd.int .u8) _ _ _ 1 [.int .u8 1] from rfl) (Reps.one (show Kd.M (Kd.int .u8) _ _ _ 122 [.int .u8 122] from rfl) (Reps.one (show Kd.M (Kd.int .u8) _ _ _ 82 [.int .u8 82] from rfl) (Reps.one (show Kd.M (Kd.int .u8) _ _ _ 0 [.int .u8 0] from rfl) (Reps.one (show Kd.M (Kd.int .u8) _ _ _ 1 [.int .u8 1] from rfl) (Reps.one (show Kd.M (Kd.int .u8) _ _ _ 120 [.int .u8 120] from rfl) (Reps.one (show Kd.M (Kd.int .u8) _ _ _ 16 [.int .u8 16] from rfl) (Reps.one (show Kd.M (Kd.int .u8) _ _ _ 1 [.int .u8 1] from rfl) (Reps.one (show Kd.M (Kd.int .u8) _ _ _ ((a0_0) % 256) [.int .u8 ((a0_0) % 256)] from rfl) (Reps.none _ _)))))))))))
  intro v110 w11 ho12 hb hg_ hnew_
  clear hg_ hnew_
  (first | rw [← Ny109.out] at ho12 | (simp only [Int.reduceToNat] at ho12; rw [← Ny109.out] at ho12))
  have n0_ := am (Kd.R_elder' (Kd.R_o HO105.out) (Kd.R_base ho12) hb)
  have n1_ := am (Kd.R_lower (Kd.R_new' ho12 (Kd.R_lt (Kd.R_o HO105.out))) (below_size (by exact bl_g HB.out)))
  have n2_ := am (blk_below (blk_o BK101.out) hb)
  have n3_ := am (below_step (by exact bl_g HB.out) hb)
  clear HO105
  clear BK101
  clear HB
  have HO105 := n0_
  have HO111 := n1_
  have BK101 := n2_
  have HB := n3_
  clear n0_ n1_ n2_ n3_
  clear hb ho12
  refine hK.out _ _ ⟨(blk_cell BK101.out 0).trans rfl, (blk_cell BK101.out 1).trans rfl⟩ (fun hHeld => ?_)
  clear hK K
  refine norm_ (a' := ?_) ?_ ?_
  rotate_left
  ·
   show Act.put _ (some 16) _ = _
   simp only [pz]
   rfl
  refine one_ (i := 0) (N := some 12) (bm 7 31) rfl rfl (by kernel_rfl) (by decide) (fun K hK => ?_)
  refine goes_ Try.func61 (by kernel_rfl) rfl #[.int .i64 0] (by rfl) rfl rfl (by simp only [ml]; try rfl) ?_
  with_reducible refine (gangwayref14_four.calls k 0 t106 _ A3.out).mono ?_
  rintro e w13 ⟨v107, rfl, ho0, hb⟩
  refine ⟨_, rfl, ?_⟩
  have n0_ := am (Kd.R_elder' (Kd.R_o HO105.out) (Kd.R_base ho0) hb)
  have n1_ := am (Kd.R_elder' (Kd.R_o HO111.out) (Kd.R_base ho0) hb)
  have n2_ := am (Kd.R_lower (Kd.R_new' (Kd.R_new' ho0 (Kd.R_lt (Kd.R_o HO105.out))) (Kd.R_lt (Kd.R_o HO111.out))) (below_size (by exact bl_g HB.out)))
  have n3_ := am (blk_below (blk_o BK101.out) hb)
  have n4_ := am (below_step (by exact bl_g HB.out) hb)
  clear HO105
  clear HO111
  clear BK101
  clear HB
  have HO105 := n0_
  have HO111 := n1_
  have HO108 := n2_
  have BK101 := n3_
  have HB := n4_
  clear n0_ n1_ n2_ n3_ n4_
  (try clear hb)
  (try clear hb2)
  (try clear hk)
  (try clear hi)
  (try clear ho0)
  refine hK.out _ _ ⟨(blk_cell BK101.out 0).trans rfl, (blk_cell BK101.out 1).trans rfl⟩ (fun hHeld => ?_)
  clear hK K
  refine norm_ (a' := ?_) ?_ ?_
  rotate_left
  ·
   show Act.put _ (some 12) _ = _
   simp only [pz]
   rfl
  exact norm_ (by simp only [putAll, Act.put, List.setIfInBounds_toArray, List.set_cons_zero, List.set_cons_succ]) (hCont (v107, v110) _ ⟨hHeld, (Kd.R_o (Kd.R_mono HO105.out (fun _ hk => ⟨hk.2, hk.1.2⟩))), (Kd.R_o (Kd.R_mono HO108.out (fun _ hk => ⟨hk.1.2, hk.2⟩))), (Kd.R_o (Kd.R_mono HO111.out (fun _ hk => ⟨hk.1.2, hk.2⟩))), (blk_o BK101.out), (by exact bl_g HB.out)⟩)
 rintro ⟨v107, v110⟩ w14 ⟨hS_, h0_, h1_, h2_, h3_, h4_⟩
 have n0_ : Aside0 (Kd.R (Kd.int .u8) 5 w14 w.heap.size (fun k_ => some k_ ≠ (v107 : Value).ownBlock ∧ some k_ ≠ (v110 : Value).ownBlock) v104 t102) := ⟨h0_⟩
 have n1_ : Aside0 (Kd.R (Kd.int .u8) 5 w14 w.heap.size (fun k_ => some k_ ≠ (v104 : Value).ownBlock ∧ some k_ ≠ (v110 : Value).ownBlock) v107 t106) := ⟨h1_⟩
 have n2_ : Aside0 (Kd.R (Kd.int .u8) 5 w14 w.heap.size (fun k_ => some k_ ≠ (v104 : Value).ownBlock ∧ some k_ ≠ (v107 : Value).ownBlock) v110 y109) := ⟨h2_⟩
 have n3_ : Aside0 (w14.heap[gb101]? = some (.cells #[.int .i64 a0_0, .slice A0_1 l0_1.length c0_1] 43 (0, 0))) := ⟨h3_⟩
 have n4_ : Aside0 (Below w.heap.size w w14) := ⟨h4_⟩
 clear HO105
 clear BK101
 clear HB
 clear h0_ h1_ h2_ h3_ h4_
 have HO105 := n0_
 have HO108 := n1_
 have HO111 := n2_
 have BK101 := n3_
 have HB := n4_
 clear n0_ n1_ n2_ n3_ n4_
 have hHeld : w14.cell? ⟨gb101, 0, none⟩ = some (.int .i64 a0_0) ∧ w14.cell? ⟨gb101, 1, none⟩ = some (.slice A0_1 l0_1.length c0_1) := hS_
 obtain ⟨Ao16, co16, eo16⟩ := Kd.R_slice HO111.out
 (first | subst eo16 | (injection eo16 with f1_ f2_ f3_; have f4_ := f1_.symm; have f5_ := f3_.symm; clear f1_ f2_ f3_; subst f4_; subst f5_))
 refine norm_ (a' := ?_) ?_ ?_
 rotate_left
 ·
  simp only [putAll, Act.put, List.setIfInBounds_toArray, List.set_cons_zero, List.set_cons_succ]
  rfl
 refine one_ (i := 5) (N := some 17) (bm 7 63) rfl rfl (by kernel_rfl) (by decide) (fun K hK => ?_)
 refine Kd.R_append_rows_step (Kd.int .u8) (w0 := w) w.heap.size (by rfl) (.tmp 12) (.tmp 16) 28 5 (.int .u8 0) 1 rfl Try.underlying28 info5 rfl (by decide) (by omega) v107 t106 y109 _ _ _ (fun k_ => some k_ ≠ (v104 : Value).ownBlock ∧ some k_ ≠ (.slice Ao16 y109.length co16 : Value).ownBlock) (fun _ => False) rfl rfl ?aO ?aR (fun _ _ h => h) (fun _ h => h.elim) ?aF ?aB ?aS ?aL ?_
 (case aR => exact Kd.C_o ((Kd.R_reads' HO111.out).2.2))
 (case aB => exact (by exact bl_g HB.out))
 (case aF => exact (fun k_ hk => ⟨Kd.fresh' (Kd.R_lt (Kd.R_o HO105.out)) k_ hk, Kd.fresh' (Kd.R_lt (Kd.R_o HO111.out)) k_ hk⟩))
 (case aO => exact (Kd.R_o HO108.out))
 (case aS => exact (below_size (by exact bl_g HB.out)))
 (case aL => have := LMc4.out; omega)
 intro v113 w15 ho hb hg hat
 rw [← Ny112.out] at ho
 have n0_ := am (blk_grown (g := gb101) (o := .cells #[.int .i64 a0_0, .slice A0_1 l0_1.length c0_1] 43 (0, 0)) (blk_o BK101.out) hg (Kd.R_ne HO108.out BK101.out (by decide)))
 have n1_ := am (Kd.R_after (ok := (fun k_ => some k_ ≠ (.slice Ao16 y109.length co16 : Value).ownBlock)) (Kd.R_o (Kd.R_mono HO105.out (fun _ hk => ⟨hk.2, hk.1⟩))) hg hat)
 have n2_ := am (Kd.R_after (ok := (fun k_ => some k_ ≠ (v104 : Value).ownBlock)) (Kd.R_o HO111.out) hg hat)
 have n3_ := am (hb)
 have n4_ := am (ho)
 clear BK101
 clear HO105
 clear HO111
 clear HB
 clear HO108
 have BK101 := n0_
 have HO105 := n1_
 have HO111 := n2_
 have HB := n3_
 have HO114 := n4_
 clear n0_ n1_ n2_ n3_ n4_
 clear ho hb hg hat
 refine hK.out _ _ ⟨(blk_cell BK101.out 0).trans rfl, (blk_cell BK101.out 1).trans rfl⟩ (fun hHeld => ?_)
 clear hK K
 refine norm_ (a' := ?_) ?_ ?_
 rotate_left
 ·
  show Act.put _ (some 17) _ = _
  simp only [pz]
  rfl
 refine pure_ (i := 6) (N := some 5) (v := ?_) (a' := ?_) (bm 7 127) rfl rfl (by kernel_rfl) (fun _ _ _ h => h) (Or.inl ⟨by rfl, ?_⟩) ?_ ?_
 rotate_left
 ·
  intro w'
  go_simp
  with_reducible rfl
 rotate_left
 ·
  simp only [pz]
  rfl
 refine done_ (by kernel_rfl) ?_
 obtain ⟨Ao18, co18, eo18⟩ := Kd.R_slice HO105.out
 subst eo18
 try go_wp2_with (first | ((with_reducible refine gate_builtin (b := .append) (xs := #[.tmp 18, .tmp 19]) rfl ?_); at_builtin; refine Kd.R_append_rows (Kd.int .u8) (w0 := w) w.heap.size rfl (.tmp 18) (.tmp 19) 28 5 (.int .u8 0) 1 rfl Try.underlying28 info5 rfl (by decide) (by omega) v113 y112 t102 _ _ _ (fun k_ => some k_ ≠ (.slice Ao18 t102.length co18 : Value).ownBlock ∧ some k_ ≠ (.slice Ao16 y109.length co16 : Value).ownBlock) (fun _ => False) rfl rfl ?aO ?aR (fun _ _ h => h) (fun _ h => h.elim) ?aF ?aB ?aS ?aL ?_; (case aR => exact Kd.C_o ((Kd.R_reads' HO105.out).2.2)); (case aB => exact (by exact bl_g HB.out)); (case aF => exact (fun k_ hk => ⟨Kd.fresh' (Kd.R_lt (Kd.R_o HO105.out)) k_ hk, Kd.fresh' (Kd.R_lt (Kd.R_o HO111.out)) k_ hk⟩)); (case aO => exact (Kd.R_o HO114.out)); (case aS => exact (below_size (by exact bl_g HB.out))); (case aL => have := LMc5.out; omega); intro v116 w17 ho hb hg hat; rw [← Ny115.out] at ho; refine mv5 (am (blk_grown (g := gb101) (o := .cells #[.int .i64 a0_0, .slice A0_1 l0_1.length c0_1] 43 (0, 0)) (blk_o BK101.out) hg (Kd.R_ne HO114.out BK101.out (by decide)))) (am (Kd.R_after (ok := (fun k_ => some k_ ≠ (.slice Ao16 y109.length co16 : Value).ownBlock)) (Kd.R_o HO105.out) hg hat)) (am (Kd.R_after (ok := (fun k_ => some k_ ≠ (.slice Ao18 t102.length co18 : Value).ownBlock)) (Kd.R_o HO111.out) hg hat)) (am (hb)) (am (ho)) ?_; clear BK101 HO105 HO111 HB HO114; intro BK101 HO105 HO111 HB HO117; clear ho hb hg hat; obtain ⟨Ao19, co19, eo19⟩ := Kd.R_slice HO117.out; subst eo19) | ((with_reducible refine gate_callee (f := 62) rfl ?_); refine goesL_ (some 21) rfl rfl Try.func62 (by kernel_rfl) rfl #[.slice Ao19 y115.length co19] rfl (by simp only [ml]; try rfl) ?_; (with_reducible refine (gangwayref14_record.calls k (fun k_ => some k_ = (.slice Ao19 y115.length co19 : Value).ownBlock) (.slice Ao19 y115.length co19) y115 t118 w _ ?side1 ?side2 A6.out).mono ?_); (case side1 => repeat (first | (with_reducible first | exact HB.out | apply below_alloc | apply pw_below_drewN | apply below_drew1 | refine below_set ?_ GE101.out) | exact HB.out)); (case side2 => exact Kd.R_tight rfl HO117.out); rintro e w20 ⟨v119, rfl, ho0, hb, hkp⟩; refine ⟨_, rfl, ?_⟩; refine mv5 (am (blk_kept (blk_o BK101.out) hkp (fun hs_ => (fun e_ => (Kd.R_ne HO117.out BK101.out (by decide)) e_) hs_))) (am (Kd.R_mono (ok' := fun k_ => some k_ ≠ (.slice Ao16 y109.length co16 : Value).ownBlock ∧ some k_ ≠ (v119 : Value).ownBlock) (Kd.R_keptB (HO105.out) hkp (fun k_ hk_ hs_ => (hk_.2) hs_)) (fun k_ hk_ => ⟨hk_.1.1, fun e_ => Or.elim (ho0.1 k_ e_.symm) (fun hs_ => hk_.2.1 hs_) (fun hn_ => Nat.not_le.2 hk_.2.2 hn_)⟩))) (am (Kd.R_mono (ok' := fun k_ => some k_ ≠ (.slice Ao18 t102.length co18 : Value).ownBlock ∧ some k_ ≠ (v119 : Value).ownBlock) (Kd.R_keptB (HO111.out) hkp (fun k_ hk_ hs_ => (hk_.2) hs_)) (fun k_ hk_ => ⟨hk_.1.1, fun e_ => Or.elim (ho0.1 k_ e_.symm) (fun hs_ => hk_.2.1 hs_) (fun hn_ => Nat.not_le.2 hk_.2.2 hn_)⟩))) (am (Kd.R_mono (ok' := fun k_ => some k_ ≠ (.slice Ao18 t102.length co18 : Value).ownBlock ∧ some k_ ≠ (.slice Ao16 y109.length co16 : Value).ownBlock) ho0 (fun k_ hk_ => ⟨Or.elim hk_ (fun hs_ => fun e_ => (((HO105.out).1 k_ e_.symm).2) hs_) (fun hn_ => (Kd.fresh' (Kd.R_lt (Kd.R_o HO105.out)) k_ hn_)), Or.elim hk_ (fun hs_ => fun e_ => (((HO111.out).1 k_ e_.symm).2) hs_) (fun hn_ => (Kd.fresh' (Kd.R_lt (Kd.R_o HO111.out)) k_ hn_))⟩))) (am (hb)) ?_; clear BK101 HO105 HO111 HB HO117; intro BK101 HO105 HO111 HO120 HB; (try clear hb); (try clear hkp); (try clear ho0)))
 go_ret
 exact ⟨_, rfl, by (with_reducible repeat (first | apply Kd.R_alloc | apply Kd.R_drewN | apply Kd.R_drew)); exact Kd.R_mono HO120.out (fun _ hk => trivial), by exact bl_g HB.out⟩
def gangwayref14_fde.f (k : Nat) (a0_0 : Int) (a0_1 : Int) (a0_2 : Int) (l0_3 : List (S97)) (a1 : Int) (a2 : Int) (a3 : Int) (a4 : Int) : Option (List Int × Int) := (gangwayref14_Put.f k a1 a0_1 (wrap64 ((wrap64 (a4 + a2)) + 8)) 0).bind fun bt102 => (if bt102.2 = 0 then ((gangwayref14_Put.f k (Int.tmod a1 16) a0_2 0 0).bind fun bt106 => (if bt106.2 = 0 then ((gangwayref13_Write.f k l0_3).bind fun bt110 => ((gangwayref14_four.f k (wrap64 ((wrap64 (a2 + 4)) - a3))).bind fun t114 => (if t114.length + bt102.1.length < 140737488355328 then ((some (t114 ++ bt102.1 : List Int)).bind fun y117 => (if y117.length + bt106.1.length < 140737488355328 then ((some (y117 ++ bt106.1 : List Int)).bind fun y120 => (if y120.length < 140737488355328 then ((some (y120 ++ [0] : List Int)).bind fun y123 => (if y123.length + bt110.1.length < 140737488355328 then ((gangwayref14_record.f k (y123 ++ bt110.1)).bind fun t129 => (some (t129, 0))) else (none))) else (none))) else (none))) else (none)))) else (some (([] : List Int), 11)))) else (some (([] : List Int), 11)))
set_option maxHeartbeats 8000000 in
theorem gangwayref14_fde.calls (k : Nat) (a0_0 : Int) (a0_1 : Int) (a0_2 : Int) (A0_3 : Option Addr) (c0_3 : Nat) (l0_3 : List (S97)) (a1 : Int) (a2 : Int) (a3 : Int) (a4 : Int) (r1 : List Int) (r2 : Int) (w : World) (hr0_3 : Kd.C k97 w A0_3 l0_3.length l0_3) (hc0_3 : l0_3.length ≤ c0_3) (h : gangwayref14_fde.f k a0_0 a0_1 a0_2 l0_3 a1 a2 a3 a4 = some (r1, r2)) :
    Calls Try.prog 28 #[.agg #[.int .i64 a0_0, .int .i64 a0_1, .int .i64 a0_2, .slice A0_3 l0_3.length c0_3], .int .i64 a1, .int .i64 a2, .int .i64 a3, .int .i64 a4] w fun e w' => ∃ v0_ : Value, e = .returned (.tuple #[v0_, .int .i64 r2]) ∧ Kd.R (Kd.int .u8) 5 w' w.heap.size (fun _ => True) v0_ r1 ∧ Below w.heap.size w w' := by
 have hu61 := Try.underlying61
 have HR0_3 := am hr0_3
 have HC0_3 := am hc0_3
 clear hr0_3 hc0_3
 have HB := am (Below.refl w.heap.size w)
 have H : ((gangwayref14_Put.f k a1 a0_1 (wrap64 ((wrap64 (a4 + a2)) + 8)) 0).bind fun bt102 => (if bt102.2 = 0 then ((gangwayref14_Put.f k (Int.tmod a1 16) a0_2 0 0).bind fun bt106 => (if bt106.2 = 0 then ((gangwayref13_Write.f k l0_3).bind fun bt110 => ((gangwayref14_four.f k (wrap64 ((wrap64 (a2 + 4)) - a3))).bind fun t114 => (if t114.length + bt102.1.length < 140737488355328 then ((some (t114 ++ bt102.1 : List Int)).bind fun y117 => (if y117.length + bt106.1.length < 140737488355328 then ((some (y117 ++ bt106.1 : List Int)).bind fun y120 => (if y120.length < 140737488355328 then ((some (y120 ++ [0] : List Int)).bind fun y123 => (if y123.length + bt110.1.length < 140737488355328 then ((gangwayref14_record.f k (y123 ++ bt110.1)).bind fun t129 => (some (t129, 0))) else (none))) else (none))) else (none))) else (none)))) else (some (([] : List Int), 11)))) else (some (([] : List Int), 11)))) = some (r1, r2) := h
 clear h
 replace H := Option.bind_eq_some_iff.mp H
 obtain ⟨⟨t102, t103⟩, A60, H⟩ := H
 replace H : (if t103 = 0 then ((gangwayref14_Put.f k (Int.tmod a1 16) a0_2 0 0).bind fun bt106 => (if bt106.2 = 0 then ((gangwayref13_Write.f k l0_3).bind fun bt110 => ((gangwayref14_four.f k (wrap64 ((wrap64 (a2 + 4)) - a3))).bind fun t114 => (if t114.length + t102.length < 140737488355328 then ((some (t114 ++ t102 : List Int)).bind fun y117 => (if y117.length + bt106.1.length < 140737488355328 then ((some (y117 ++ bt106.1 : List Int)).bind fun y120 => (if y120.length < 140737488355328 then ((some (y120 ++ [0] : List Int)).bind fun y123 => (if y123.length + bt110.1.length < 140737488355328 then ((gangwayref14_record.f k (y123 ++ bt110.1)).bind fun t129 => (some (t129, 0))) else (none))) else (none))) else (none))) else (none)))) else (some (([] : List Int), 11)))) else (some (([] : List Int), 11))) = some (r1, r2) := H
 have A6 := am A60
 clear A60
 by_cases c7 : t103 = 0
 rotate_left
 ·
  rw [if_neg c7] at H
  have c7b0 : (t103 == 0) = false := beq_eq_false_iff_ne.mpr c7
  have c7b1 : (t103 != 0) = true := bne_iff_ne.mpr c7
  simp only [Option.some.injEq, Prod.mk.injEq] at H
  obtain ⟨rfl, rfl⟩ := H
  go_enter Try.func28, Try.ntmps28
  go_wp2_with (first | ((with_reducible refine gate_dst (N := 5) rfl ?_); refine box_event ?hg (N := 5) ?hd (cs := #[.int .i64 a0_0, .int .i64 a0_1, .int .i64 a0_2, .slice A0_3 l0_3.length c0_3]) (t := 61) ?hr ?_; (case hd => rfl); (case hg => rfl); (case hr => go_simp; try rfl); intro gb101 hg w39 hbox hb; refine mv3 (am (below_step (by exact bl_o HB.out) hb)) (am (hbox)) (lei (by rw [hg]; exact (below_size (by exact bl_o HB.out)) : w.heap.size ≤ gb101)) ?_; clear HB; intro HB BK101 GW101; have GE101 := GW101; clear hb hbox hg; obtain ⟨hcz40_0, hcz40_1, hcz40_2, hcz40_3, hfz40_0, hfz40_1, hfz40_2, hfz40_3⟩ := cells4 BK101.out) | ((with_reducible refine gate_callee (f := 17) rfl ?_); refine goesL_ (some 26) rfl rfl Try.func17 (by kernel_rfl) rfl #[.int .i64 a1, .int .i64 a0_1, .int .i64 (wrap64 ((wrap64 (a4 + a2)) + 8)), .int .i64 0] rfl (by simp only [ml]; try rfl) ?_; (with_reducible refine (gangwayref14_Put.calls k a1 a0_1 (wrap64 ((wrap64 (a4 + a2)) + 8)) 0 t102 t103 _ A6.out).mono ?_); rintro e w41 ⟨v104, rfl, ho0, hb⟩; refine ⟨_, rfl, ?_⟩; refine mv3 (am (Kd.R_lower ho0 (below_size (by exact bl_g HB.out)))) (am (blk_below (blk_o BK101.out) hb)) (am (below_step (by exact bl_g HB.out) hb)) ?_; clear BK101 HB; intro HO105 BK101 HB))
  go_ret2
  exact ⟨_, rfl, by first | exact Kd.R_nil _ _ _ _ _ | exact Kd.N_nil _ _ _ _ _, by exact bl_g HB.out⟩
 rw [if_pos c7] at H
 have c7b0 : (t103 == 0) = true := beq_iff_eq.mpr c7
 have c7b1 : (t103 != 0) = false := bne_eq_false_iff_eq.mpr c7
 clear c7
 replace H := Option.bind_eq_some_iff.mp H
 obtain ⟨⟨t106, t107⟩, A80, H⟩ := H
 replace H : (if t107 = 0 then ((gangwayref13_Write.f k l0_3).bind fun bt110 => ((gangwayref14_four.f k (wrap64 ((wrap64 (a2 + 4)) - a3))).bind fun t114 => (if t114.length + t102.length < 140737488355328 then ((some (t114 ++ t102 : List Int)).bind fun y117 => (if y117.length + t106.length < 140737488355328 then ((some (y117 ++ t106 : List Int)).bind fun y120 => (if y120.length < 140737488355328 then ((some (y120 ++ [0] : List Int)).bind fun y123 => (if y123.length + bt110.1.length < 140737488355328 then ((gangwayref14_record.f k (y123 ++ bt110.1)).bind fun t129 => (some (t129, 0))) else (none))) else (none))) else (none))) else (none)))) else (some (([] : List Int), 11))) = some (r1, r2) := H
 have A8 := am A80
 clear A80
 by_cases c9 : t107 = 0
 rotate_left
 ·
  rw [if_neg c9] at H
  have c9b0 : (t107 == 0) = false := beq_eq_false_iff_ne.mpr c9
  have c9b1 : (t107 != 0) = true := bne_iff_ne.mpr c9
  simp only [Option.some.injEq, Prod.mk.injEq] at H
  obtain ⟨rfl, rfl⟩ := H
  go_enter Try.func28, Try.ntmps28
  go_wp2_with (first | ((with_reducible refine gate_dst (N := 5) rfl ?_); refine box_event ?hg (N := 5) ?hd (cs := #[.int .i64 a0_0, .int .i64 a0_1, .int .i64 a0_2, .slice A0_3 l0_3.length c0_3]) (t := 61) ?hr ?_; (case hd => rfl); (case hg => rfl); (case hr => go_simp; try rfl); intro gb101 hg w34 hbox hb; refine mv3 (am (below_step (by exact bl_o HB.out) hb)) (am (hbox)) (lei (by rw [hg]; exact (below_size (by exact bl_o HB.out)) : w.heap.size ≤ gb101)) ?_; clear HB; intro HB BK101 GW101; have GE101 := GW101; clear hb hbox hg; obtain ⟨hcz35_0, hcz35_1, hcz35_2, hcz35_3, hfz35_0, hfz35_1, hfz35_2, hfz35_3⟩ := cells4 BK101.out) | ((with_reducible refine gate_callee (f := 17) rfl ?_); refine goesL_ (some 26) rfl rfl Try.func17 (by kernel_rfl) rfl #[.int .i64 a1, .int .i64 a0_1, .int .i64 (wrap64 ((wrap64 (a4 + a2)) + 8)), .int .i64 0] rfl (by simp only [ml]; try rfl) ?_; (with_reducible refine (gangwayref14_Put.calls k a1 a0_1 (wrap64 ((wrap64 (a4 + a2)) + 8)) 0 t102 t103 _ A6.out).mono ?_); rintro e w36 ⟨v104, rfl, ho0, hb⟩; refine ⟨_, rfl, ?_⟩; refine mv3 (am (Kd.R_lower ho0 (below_size (by exact bl_g HB.out)))) (am (blk_below (blk_o BK101.out) hb)) (am (below_step (by exact bl_g HB.out) hb)) ?_; clear BK101 HB; intro HO105 BK101 HB; obtain ⟨hcz37_0, hcz37_1, hcz37_2, hcz37_3, hfz37_0, hfz37_1, hfz37_2, hfz37_3⟩ := cells4 BK101.out) | ((with_reducible refine gate_callee (f := 17) rfl ?_); refine goesL_ (some 36) rfl rfl Try.func17 (by kernel_rfl) rfl #[.int .i64 (Int.tmod a1 16), .int .i64 a0_2, .int .i64 0, .int .i64 0] rfl (by simp only [ml]; try rfl) ?_; (with_reducible refine (gangwayref14_Put.calls k (Int.tmod a1 16) a0_2 0 0 t106 t107 _ A8.out).mono ?_); rintro e w38 ⟨v108, rfl, ho0, hb⟩; refine ⟨_, rfl, ?_⟩; refine mv4 (am (Kd.R_elder' (Kd.R_o HO105.out) (Kd.R_base ho0) hb)) (am (Kd.R_lower (Kd.R_new' ho0 (Kd.R_lt (Kd.R_o HO105.out))) (below_size (by exact bl_g HB.out)))) (am (blk_below (blk_o BK101.out) hb)) (am (below_step (by exact bl_g HB.out) hb)) ?_; clear HO105 BK101 HB; intro HO105 HO109 BK101 HB))
  go_ret2
  exact ⟨_, rfl, by first | exact Kd.R_nil _ _ _ _ _ | exact Kd.N_nil _ _ _ _ _, by exact bl_g HB.out⟩
 rw [if_pos c9] at H
 have c9b0 : (t107 == 0) = true := beq_iff_eq.mpr c9
 have c9b1 : (t107 != 0) = false := bne_eq_false_iff_eq.mpr c9
 clear c9
 replace H := Option.bind_eq_some_iff.mp H
 obtain ⟨⟨t110, t111⟩, A100, H⟩ := H
 replace H : ((gangwayref14_four.f k (wrap64 ((wrap64 (a2 + 4)) - a3))).bind fun t114 => (if t114.length + t102.length < 140737488355328 then ((some (t114 ++ t102 : List Int)).bind fun y117 => (if y117.length + t106.length < 140737488355328 then ((some (y117 ++ t106 : List Int)).bind fun y120 => (if y120.length < 140737488355328 then ((some (y120 ++ [0] : List Int)).bind fun y123 => (if y123.length + t110.length < 140737488355328 then ((gangwayref14_record.f k (y123 ++ t110)).bind fun t129 => (some (t129, 0))) else (none))) else (none))) else (none))) else (none))) = some (r1, r2) := H
 have A10 := am A100
 clear A100
 replace H := Option.bind_eq_some_iff.mp H
 obtain ⟨t114, A110, H⟩ := H
 replace H : (if t114.length + t102.length < 140737488355328 then ((some (t114 ++ t102 : List Int)).bind fun y117 => (if y117.length + t106.length < 140737488355328 then ((some (y117 ++ t106 : List Int)).bind fun y120 => (if y120.length < 140737488355328 then ((some (y120 ++ [0] : List Int)).bind fun y123 => (if y123.length + t110.length < 140737488355328 then ((gangwayref14_record.f k (y123 ++ t110)).bind fun t129 => (some (t129, 0))) else (none))) else (none))) else (none))) else (none)) = some (r1, r2) := H
 have A11 := am A110
 clear A110
 by_cases c12 : t114.length + t102.length < 140737488355328
 rotate_left
 ·
  rw [if_neg c12] at H
  exact absurd H (by simp)
 rw [if_pos c12] at H
 have LMc12 := am c12
 clear c12
 obtain ⟨y117, hy117⟩ : ∃ y_ : List Int, y_ = (t114 ++ t102) := ⟨_, rfl⟩
 replace H : (if y117.length + t106.length < 140737488355328 then ((some (y117 ++ t106 : List Int)).bind fun y120 => (if y120.length < 140737488355328 then ((some (y120 ++ [0] : List Int)).bind fun y123 => (if y123.length + t110.length < 140737488355328 then ((gangwayref14_record.f k (y123 ++ t110)).bind fun t129 => (some (t129, 0))) else (none))) else (none))) else (none)) = some (r1, r2) := by first | (rw [hy117]; with_reducible exact H) | (have H2_ := (Option.bind_some _ _).symm.trans H; rw [hy117]; with_reducible exact H2_)
 have Ny117 := am hy117
 clear hy117
 by_cases c13 : y117.length + t106.length < 140737488355328
 rotate_left
 ·
  rw [if_neg c13] at H
  exact absurd H (by simp)
 rw [if_pos c13] at H
 have LMc13 := am c13
 clear c13
 obtain ⟨y120, hy120⟩ : ∃ y_ : List Int, y_ = (y117 ++ t106) := ⟨_, rfl⟩
 replace H : (if y120.length < 140737488355328 then ((some (y120 ++ [0] : List Int)).bind fun y123 => (if y123.length + t110.length < 140737488355328 then ((gangwayref14_record.f k (y123 ++ t110)).bind fun t129 => (some (t129, 0))) else (none))) else (none)) = some (r1, r2) := by first | (rw [hy120]; with_reducible exact H) | (have H2_ := (Option.bind_some _ _).symm.trans H; rw [hy120]; with_reducible exact H2_)
 have Ny120 := am hy120
 clear hy120
 by_cases c14 : y120.length < 140737488355328
 rotate_left
 ·
  rw [if_neg c14] at H
  exact absurd H (by simp)
 rw [if_pos c14] at H
 have LMc14 := am c14
 clear c14
 obtain ⟨y123, hy123⟩ : ∃ y_ : List Int, y_ = (y120 ++ [0]) := ⟨_, rfl⟩
 replace H : (if y123.length + t110.length < 140737488355328 then ((gangwayref14_record.f k (y123 ++ t110)).bind fun t129 => (some (t129, 0))) else (none)) = some (r1, r2) := by first | (rw [hy123]; with_reducible exact H) | (have H2_ := (Option.bind_some _ _).symm.trans H; rw [hy123]; with_reducible exact H2_)
 have Ny123 := am hy123
 clear hy123
 by_cases c15 : y123.length + t110.length < 140737488355328
 rotate_left
 ·
  rw [if_neg c15] at H
  exact absurd H (by simp)
 rw [if_pos c15] at H
 have LMc15 := am c15
 clear c15
 obtain ⟨y126, hy126⟩ : ∃ y_ : List Int, y_ = (y123 ++ t110) := ⟨_, rfl⟩
 replace H : ((gangwayref14_record.f k y126).bind fun t129 => (some (t129, 0))) = some (r1, r2) := by first | (rw [hy126]; with_reducible exact H) | (have H2_ := (Option.bind_some _ _).symm.trans H; rw [hy126]; with_reducible exact H2_)
 have Ny126 := am hy126
 clear hy126
 replace H := Option.bind_eq_some_iff.mp H
 obtain ⟨t129, A160, H⟩ := H
 replace H : (some (t129, 0)) = some (r1, r2) := H
 have A16 := am A160
 clear A160
 simp only [Option.some.injEq, Prod.mk.injEq] at H
 obtain ⟨rfl, rfl⟩ := H
 go_enter Try.func28, Try.ntmps28
 go_wp2_with (first | ((with_reducible refine gate_dst (N := 5) rfl ?_); refine box_event ?hg (N := 5) ?hd (cs := #[.int .i64 a0_0, .int .i64 a0_1, .int .i64 a0_2, .slice A0_3 l0_3.length c0_3]) (t := 61) ?hr ?_; (case hd => rfl); (case hg => rfl); (case hr => go_simp; try rfl); intro gb101 hg w17 hbox hb; refine mv3 (am (below_step (by exact bl_o HB.out) hb)) (am (hbox)) (lei (by rw [hg]; exact (below_size (by exact bl_o HB.out)) : w.heap.size ≤ gb101)) ?_; clear HB; intro HB BK101 GW101; have GE101 := GW101; clear hb hbox hg; obtain ⟨hcz18_0, hcz18_1, hcz18_2, hcz18_3, hfz18_0, hfz18_1, hfz18_2, hfz18_3⟩ := cells4 BK101.out) | ((with_reducible refine gate_callee (f := 17) rfl ?_); refine goesL_ (some 26) rfl rfl Try.func17 (by kernel_rfl) rfl #[.int .i64 a1, .int .i64 a0_1, .int .i64 (wrap64 ((wrap64 (a4 + a2)) + 8)), .int .i64 0] rfl (by simp only [ml]; try rfl) ?_; (with_reducible refine (gangwayref14_Put.calls k a1 a0_1 (wrap64 ((wrap64 (a4 + a2)) + 8)) 0 t102 t103 _ A6.out).mono ?_); rintro e w19 ⟨v104, rfl, ho0, hb⟩; refine ⟨_, rfl, ?_⟩; refine mv3 (am (Kd.R_lower ho0 (below_size (by exact bl_g HB.out)))) (am (blk_below (blk_o BK101.out) hb)) (am (below_step (by exact bl_g HB.out) hb)) ?_; clear BK101 HB; intro HO105 BK101 HB; obtain ⟨hcz20_0, hcz20_1, hcz20_2, hcz20_3, hfz20_0, hfz20_1, hfz20_2, hfz20_3⟩ := cells4 BK101.out) | ((with_reducible refine gate_callee (f := 17) rfl ?_); refine goesL_ (some 36) rfl rfl Try.func17 (by kernel_rfl) rfl #[.int .i64 (Int.tmod a1 16), .int .i64 a0_2, .int .i64 0, .int .i64 0] rfl (by simp only [ml]; try rfl) ?_; (with_reducible refine (gangwayref14_Put.calls k (Int.tmod a1 16) a0_2 0 0 t106 t107 _ A8.out).mono ?_); rintro e w21 ⟨v108, rfl, ho0, hb⟩; refine ⟨_, rfl, ?_⟩; refine mv4 (am (Kd.R_elder' (Kd.R_o HO105.out) (Kd.R_base ho0) hb)) (am (Kd.R_lower (Kd.R_new' ho0 (Kd.R_lt (Kd.R_o HO105.out))) (below_size (by exact bl_g HB.out)))) (am (blk_below (blk_o BK101.out) hb)) (am (below_step (by exact bl_g HB.out) hb)) ?_; clear HO105 BK101 HB; intro HO105 HO109 BK101 HB; obtain ⟨hcz22_0, hcz22_1, hcz22_2, hcz22_3, hfz22_0, hfz22_1, hfz22_2, hfz22_3⟩ := cells4 BK101.out) | ((with_reducible refine gate_callee (f := 60) rfl ?_); refine goesL_ (some 44) rfl rfl Try.func60 (by kernel_rfl) rfl #[.slice A0_3 l0_3.length c0_3] rfl (by simp only [ml]; try rfl) ?_; (with_reducible refine (gangwayref13_Write.calls k _ _ l0_3 t110 t111 _ ?side1 ?side2 A10.out).mono ?_); (case side1 => exact Kd.C_o (Kd.C_below HR0_3.out HB.out)); (case side2 => exact HC0_3.out); rintro e w23 ⟨v112, rfl, ho0, hb⟩; refine ⟨_, rfl, ?_⟩; refine mv5 (am (Kd.R_elder' (Kd.R_o HO105.out) (Kd.R_base ho0) hb)) (am (Kd.R_elder' (Kd.R_o HO109.out) (Kd.R_base ho0) hb)) (am (Kd.R_lower (Kd.R_new' (Kd.R_new' ho0 (Kd.R_lt (Kd.R_o HO105.out))) (Kd.R_lt (Kd.R_o HO109.out))) (below_size (by exact bl_g HB.out)))) (am (blk_below (blk_o BK101.out) hb)) (am (below_step (by exact bl_g HB.out) hb)) ?_; clear HO105 HO109 BK101 HB; intro HO105 HO109 HO113 BK101 HB) | ((with_reducible refine gate_callee (f := 61) rfl ?_); refine goesL_ (some 51) rfl rfl Try.func61 (by kernel_rfl) rfl #[.int .i64 (wrap64 ((wrap64 (a2 + 4)) - a3))] rfl (by simp only [ml]; try rfl) ?_; (with_reducible refine (gangwayref14_four.calls k (wrap64 ((wrap64 (a2 + 4)) - a3)) t114 _ A11.out).mono ?_); rintro e w24 ⟨v115, rfl, ho0, hb⟩; refine ⟨_, rfl, ?_⟩; refine mv6 (am (Kd.R_elder' (Kd.R_o HO105.out) (Kd.R_base ho0) hb)) (am (Kd.R_elder' (Kd.R_o HO109.out) (Kd.R_base ho0) hb)) (am (Kd.R_elder' (Kd.R_o HO113.out) (Kd.R_base ho0) hb)) (am (Kd.R_lower (Kd.R_new' (Kd.R_new' (Kd.R_new' ho0 (Kd.R_lt (Kd.R_o HO105.out))) (Kd.R_lt (Kd.R_o HO109.out))) (Kd.R_lt (Kd.R_o HO113.out))) (below_size (by exact bl_g HB.out)))) (am (blk_below (blk_o BK101.out) hb)) (am (below_step (by exact bl_g HB.out) hb)) ?_; clear HO105 HO109 HO113 BK101 HB; intro HO105 HO109 HO113 HO116 BK101 HB; obtain ⟨Ao26, co26, eo26⟩ := Kd.R_slice HO105.out; subst eo26) | ((with_reducible refine gate_builtin (b := .append) (xs := #[.tmp 51, .tmp 52]) rfl ?_); at_builtin; refine Kd.R_append_rows (Kd.int .u8) (w0 := w) w.heap.size rfl (.tmp 51) (.tmp 52) 28 5 (.int .u8 0) 1 rfl Try.underlying28 info5 rfl (by decide) (by omega) v115 t114 t102 _ _ _ (fun k_ => some k_ ≠ (.slice Ao26 t102.length co26 : Value).ownBlock ∧ some k_ ≠ (v108 : Value).ownBlock ∧ some k_ ≠ (v112 : Value).ownBlock) (fun _ => False) rfl rfl ?aO ?aR (fun _ _ h => h) (fun _ h => h.elim) ?aF ?aB ?aS ?aL ?_; (case aR => exact Kd.C_o ((Kd.R_reads' HO105.out).2.2)); (case aB => exact (by exact bl_g HB.out)); (case aF => exact (fun k_ hk => ⟨Kd.fresh' (Kd.R_lt (Kd.R_o HO105.out)) k_ hk, Kd.fresh' (Kd.R_lt (Kd.R_o HO109.out)) k_ hk, Kd.fresh' (Kd.R_lt (Kd.R_o HO113.out)) k_ hk⟩)); (case aO => exact (Kd.R_o (Kd.R_mono HO116.out (fun _ hk => ⟨hk.1.1.2, ⟨hk.1.2, hk.2⟩⟩)))); (case aS => exact (below_size (by exact bl_g HB.out))); (case aL => have := LMc12.out; omega); intro v118 w25 ho hb hg hat; rw [← Ny117.out] at ho; refine mv6 (am (blk_grown (g := gb101) (o := .cells #[.int .i64 a0_0, .int .i64 a0_1, .int .i64 a0_2, .slice A0_3 l0_3.length c0_3] 61 (0, 0)) (blk_o BK101.out) hg (Kd.R_ne HO116.out BK101.out (by decide)))) (am (Kd.R_after (ok := (fun k_ => some k_ ≠ (v108 : Value).ownBlock ∧ some k_ ≠ (v112 : Value).ownBlock)) (Kd.R_o (Kd.R_mono HO105.out (fun _ hk => ⟨⟨hk.1.1.2, hk.1.2⟩, hk.2⟩))) hg hat)) (am (Kd.R_after (ok := (fun k_ => some k_ ≠ (.slice Ao26 t102.length co26 : Value).ownBlock ∧ some k_ ≠ (v112 : Value).ownBlock)) (Kd.R_o (Kd.R_mono HO109.out (fun _ hk => ⟨⟨hk.1.1.2, hk.1.2⟩, hk.2⟩))) hg hat)) (am (Kd.R_after (ok := (fun k_ => some k_ ≠ (.slice Ao26 t102.length co26 : Value).ownBlock ∧ some k_ ≠ (v108 : Value).ownBlock)) (Kd.R_o (Kd.R_mono HO113.out (fun _ hk => ⟨⟨hk.1.1.2, hk.1.2⟩, hk.2⟩))) hg hat)) (am (hb)) (am (ho)) ?_; clear BK101 HO105 HO109 HO113 HB HO116; intro BK101 HO105 HO109 HO113 HB HO119; clear ho hb hg hat; obtain ⟨Ao28, co28, eo28⟩ := Kd.R_slice HO109.out; subst eo28) | ((with_reducible refine gate_builtin (b := .append) (xs := #[.tmp 54, .tmp 55]) rfl ?_); at_builtin; refine Kd.R_append_rows (Kd.int .u8) (w0 := w) w.heap.size rfl (.tmp 54) (.tmp 55) 28 5 (.int .u8 0) 1 rfl Try.underlying28 info5 rfl (by decide) (by omega) v118 y117 t106 _ _ _ (fun k_ => some k_ ≠ (.slice Ao26 t102.length co26 : Value).ownBlock ∧ some k_ ≠ (.slice Ao28 t106.length co28 : Value).ownBlock ∧ some k_ ≠ (v112 : Value).ownBlock) (fun _ => False) rfl rfl ?aO ?aR (fun _ _ h => h) (fun _ h => h.elim) ?aF ?aB ?aS ?aL ?_; (case aR => exact Kd.C_o ((Kd.R_reads' HO109.out).2.2)); (case aB => exact (by exact bl_g HB.out)); (case aF => exact (fun k_ hk => ⟨Kd.fresh' (Kd.R_lt (Kd.R_o HO105.out)) k_ hk, Kd.fresh' (Kd.R_lt (Kd.R_o HO109.out)) k_ hk, Kd.fresh' (Kd.R_lt (Kd.R_o HO113.out)) k_ hk⟩)); (case aO => exact (Kd.R_o HO119.out)); (case aS => exact (below_size (by exact bl_g HB.out))); (case aL => have := LMc13.out; omega); intro v121 w27 ho hb hg hat; rw [← Ny120.out] at ho; refine mv6 (am (blk_grown (g := gb101) (o := .cells #[.int .i64 a0_0, .int .i64 a0_1, .int .i64 a0_2, .slice A0_3 l0_3.length c0_3] 61 (0, 0)) (blk_o BK101.out) hg (Kd.R_ne HO119.out BK101.out (by decide)))) (am (Kd.R_after (ok := (fun k_ => some k_ ≠ (.slice Ao28 t106.length co28 : Value).ownBlock ∧ some k_ ≠ (v112 : Value).ownBlock)) (Kd.R_o HO105.out) hg hat)) (am (Kd.R_after (ok := (fun k_ => some k_ ≠ (.slice Ao26 t102.length co26 : Value).ownBlock ∧ some k_ ≠ (v112 : Value).ownBlock)) (Kd.R_o HO109.out) hg hat)) (am (Kd.R_after (ok := (fun k_ => some k_ ≠ (.slice Ao26 t102.length co26 : Value).ownBlock ∧ some k_ ≠ (.slice Ao28 t106.length co28 : Value).ownBlock)) (Kd.R_o HO113.out) hg hat)) (am (hb)) (am (ho)) ?_; clear BK101 HO105 HO109 HO113 HB HO119; intro BK101 HO105 HO109 HO113 HB HO122; clear ho hb hg hat) | ((with_reducible refine gate_builtin (b := .append) (xs := #[.tmp 56, .tmp 57]) rfl ?_); at_builtin; refine Kd.R_append (Kd.int .u8) (w0 := w) w.heap.size rfl (.tmp 56) (.tmp 57) 28 5 (.int .u8 0) 1 rfl Try.underlying28 info5 rfl (by decide) (by omega) v121 y120 0 [.int .u8 0] (fun k_ => some k_ ≠ (.slice Ao26 t102.length co26 : Value).ownBlock ∧ some k_ ≠ (.slice Ao28 t106.length co28 : Value).ownBlock ∧ some k_ ≠ (v112 : Value).ownBlock) (fun _ => False) rfl rfl ?aP (fun _ hk => hk.elim) ?aF ?aO ?aB ?aS ?aL ?_; (case aP => exact rfl); (case aB => exact (by exact bl_g HB.out)); (case aF => exact (fun k_ hk => ⟨Kd.fresh' (Kd.R_lt (Kd.R_o HO105.out)) k_ hk, Kd.fresh' (Kd.R_lt (Kd.R_o HO109.out)) k_ hk, Kd.fresh' (Kd.R_lt (Kd.R_o HO113.out)) k_ hk⟩)); (case aO => exact (Kd.R_o HO122.out)); (case aS => exact (below_size (by exact bl_g HB.out))); (case aL => have := LMc14.out; omega); intro v124 w29 ho hb hg hat; rw [← Ny123.out] at ho; refine mv6 (am (blk_grown (g := gb101) (o := .cells #[.int .i64 a0_0, .int .i64 a0_1, .int .i64 a0_2, .slice A0_3 l0_3.length c0_3] 61 (0, 0)) (blk_o BK101.out) hg (Kd.R_ne HO122.out BK101.out (by decide)))) (am (Kd.R_after (ok := (fun k_ => some k_ ≠ (.slice Ao28 t106.length co28 : Value).ownBlock ∧ some k_ ≠ (v112 : Value).ownBlock)) (Kd.R_o HO105.out) hg hat)) (am (Kd.R_after (ok := (fun k_ => some k_ ≠ (.slice Ao26 t102.length co26 : Value).ownBlock ∧ some k_ ≠ (v112 : Value).ownBlock)) (Kd.R_o HO109.out) hg hat)) (am (Kd.R_after (ok := (fun k_ => some k_ ≠ (.slice Ao26 t102.length co26 : Value).ownBlock ∧ some k_ ≠ (.slice Ao28 t106.length co28 : Value).ownBlock)) (Kd.R_o HO113.out) hg hat)) (am (hb)) (am (ho)) ?_; clear BK101 HO105 HO109 HO113 HB HO122; intro BK101 HO105 HO109 HO113 HB HO125; clear ho hb hg hat; obtain ⟨Ao31, co31, eo31⟩ := Kd.R_slice HO113.out; subst eo31) | ((with_reducible refine gate_builtin (b := .append) (xs := #[.tmp 59, .tmp 60]) rfl ?_); at_builtin; refine Kd.R_append_rows (Kd.int .u8) (w0 := w) w.heap.size rfl (.tmp 59) (.tmp 60) 28 5 (.int .u8 0) 1 rfl Try.underlying28 info5 rfl (by decide) (by omega) v124 y123 t110 _ _ _ (fun k_ => some k_ ≠ (.slice Ao26 t102.length co26 : Value).ownBlock ∧ some k_ ≠ (.slice Ao28 t106.length co28 : Value).ownBlock ∧ some k_ ≠ (.slice Ao31 t110.length co31 : Value).ownBlock) (fun _ => False) rfl rfl ?aO ?aR (fun _ _ h => h) (fun _ h => h.elim) ?aF ?aB ?aS ?aL ?_; (case aR => exact Kd.C_o ((Kd.R_reads' HO113.out).2.2)); (case aB => exact (by exact bl_g HB.out)); (case aF => exact (fun k_ hk => ⟨Kd.fresh' (Kd.R_lt (Kd.R_o HO105.out)) k_ hk, Kd.fresh' (Kd.R_lt (Kd.R_o HO109.out)) k_ hk, Kd.fresh' (Kd.R_lt (Kd.R_o HO113.out)) k_ hk⟩)); (case aO => exact (Kd.R_o HO125.out)); (case aS => exact (below_size (by exact bl_g HB.out))); (case aL => have := LMc15.out; omega); intro v127 w30 ho hb hg hat; rw [← Ny126.out] at ho; refine mv6 (am (blk_grown (g := gb101) (o := .cells #[.int .i64 a0_0, .int .i64 a0_1, .int .i64 a0_2, .slice A0_3 l0_3.length c0_3] 61 (0, 0)) (blk_o BK101.out) hg (Kd.R_ne HO125.out BK101.out (by decide)))) (am (Kd.R_after (ok := (fun k_ => some k_ ≠ (.slice Ao28 t106.length co28 : Value).ownBlock ∧ some k_ ≠ (.slice Ao31 t110.length co31 : Value).ownBlock)) (Kd.R_o HO105.out) hg hat)) (am (Kd.R_after (ok := (fun k_ => some k_ ≠ (.slice Ao26 t102.length co26 : Value).ownBlock ∧ some k_ ≠ (.slice Ao31 t110.length co31 : Value).ownBlock)) (Kd.R_o HO109.out) hg hat)) (am (Kd.R_after (ok := (fun k_ => some k_ ≠ (.slice Ao26 t102.length co26 : Value).ownBlock ∧ some k_ ≠ (.slice Ao28 t106.length co28 : Value).ownBlock)) (Kd.R_o HO113.out) hg hat)) (am (hb)) (am (ho)) ?_; clear BK101 HO105 HO109 HO113 HB HO125; intro BK101 HO105 HO109 HO113 HB HO128; clear ho hb hg hat; obtain ⟨Ao32, co32, eo32⟩ := Kd.R_slice HO128.out; subst eo32) | ((with_reducible refine gate_callee (f := 62) rfl ?_); refine goesL_ (some 62) rfl rfl Try.func62 (by kernel_rfl) rfl #[.slice Ao32 y126.length co32] rfl (by simp only [ml]; try rfl) ?_; (with_reducible refine (gangwayref14_record.calls k (fun k_ => some k_ = (.slice Ao32 y126.length co32 : Value).ownBlock) (.slice Ao32 y126.length co32) y126 t129 w _ ?side1 ?side2 A16.out).mono ?_); (case side1 => repeat (first | (with_reducible first | exact HB.out | apply below_alloc | apply pw_below_drewN | apply below_drew1 | refine below_set ?_ GE101.out) | exact HB.out)); (case side2 => exact Kd.R_tight rfl HO128.out); rintro e w33 ⟨v130, rfl, ho0, hb, hkp⟩; refine ⟨_, rfl, ?_⟩; refine mv6 (am (blk_kept (blk_o BK101.out) hkp (fun hs_ => (fun e_ => (Kd.R_ne HO128.out BK101.out (by decide)) e_) hs_))) (am (Kd.R_mono (ok' := fun k_ => some k_ ≠ (.slice Ao28 t106.length co28 : Value).ownBlock ∧ some k_ ≠ (.slice Ao31 t110.length co31 : Value).ownBlock ∧ some k_ ≠ (v130 : Value).ownBlock) (Kd.R_keptB (HO105.out) hkp (fun k_ hk_ hs_ => (hk_.2) hs_)) (fun k_ hk_ => ⟨hk_.1.1.1, hk_.1.1.2, fun e_ => Or.elim (ho0.1 k_ e_.symm) (fun hs_ => hk_.2.1 hs_) (fun hn_ => Nat.not_le.2 hk_.2.2 hn_)⟩))) (am (Kd.R_mono (ok' := fun k_ => some k_ ≠ (.slice Ao26 t102.length co26 : Value).ownBlock ∧ some k_ ≠ (.slice Ao31 t110.length co31 : Value).ownBlock ∧ some k_ ≠ (v130 : Value).ownBlock) (Kd.R_keptB (HO109.out) hkp (fun k_ hk_ hs_ => (hk_.2) hs_)) (fun k_ hk_ => ⟨hk_.1.1.1, hk_.1.1.2, fun e_ => Or.elim (ho0.1 k_ e_.symm) (fun hs_ => hk_.2.1 hs_) (fun hn_ => Nat.not_le.2 hk_.2.2 hn_)⟩))) (am (Kd.R_mono (ok' := fun k_ => some k_ ≠ (.slice Ao26 t102.length co26 : Value).ownBlock ∧ some k_ ≠ (.slice Ao28 t106.length co28 : Value).ownBlock ∧ some k_ ≠ (v130 : Value).ownBlock) (Kd.R_keptB (HO113.out) hkp (fun k_ hk_ hs_ => (hk_.2) hs_)) (fun k_ hk_ => ⟨hk_.1.1.1, hk_.1.1.2, fun e_ => Or.elim (ho0.1 k_ e_.symm) (fun hs_ => hk_.2.1 hs_) (fun hn_ => Nat.not_le.2 hk_.2.2 hn_)⟩))) (am (Kd.R_mono (ok' := fun k_ => some k_ ≠ (.slice Ao26 t102.length co26 : Value).ownBlock ∧ some k_ ≠ (.slice Ao28 t106.length co28 : Value).ownBlock ∧ some k_ ≠ (.slice Ao31 t110.length co31 : Value).ownBlock) ho0 (fun k_ hk_ => ⟨Or.elim hk_ (fun hs_ => fun e_ => (((HO105.out).1 k_ e_.symm).2) hs_) (fun hn_ => (Kd.fresh' (Kd.R_lt (Kd.R_o HO105.out)) k_ hn_)), Or.elim hk_ (fun hs_ => fun e_ => (((HO109.out).1 k_ e_.symm).2) hs_) (fun hn_ => (Kd.fresh' (Kd.R_lt (Kd.R_o HO109.out)) k_ hn_)), Or.elim hk_ (fun hs_ => fun e_ => (((HO113.out).1 k_ e_.symm).2) hs_) (fun hn_ => (Kd.fresh' (Kd.R_lt (Kd.R_o HO113.out)) k_ hn_))⟩))) (am (hb)) ?_; clear BK101 HO105 HO109 HO113 HB HO128; intro BK101 HO105 HO109 HO113 HO131 HB; (try clear hb); (try clear hkp); (try clear ho0)))
 go_ret2
 exact ⟨_, rfl, by (with_reducible repeat (first | apply Kd.R_alloc | apply Kd.R_drewN | apply Kd.R_drew)); exact Kd.R_mono HO131.out (fun _ hk => trivial), by exact bl_g HB.out⟩
end Go.Proofs.Ytfgfnflhdabmcaa.G
end
