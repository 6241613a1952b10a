/- Each theorem here says what a call of one Go function returns, and what it leaves of the memory, for the arguments that its hypotheses name. Printed by a driver of this session over the kit's printer; what stands behind GIVENBYHAND is this session's own text. -/
import Derived.Test.YtjcabmopajhggaaG0
import Derived.Test.YtjcabmopajhggaaGf20
import Derived.Test.YtjcabmopajhggaaGf14
import Derived.Test.YtjcabmopajhggaaGf28
namespace Go.Proofs.Ytjcabmopajhggaa.G
open Go.RowKit Go.Proofs.YtjcabmopajhggaaW.PrintWords Go.Proofs.YtjcabmopajhggaaW.PrintLast Go.Proofs.YtjcabmopajhggaaW.PrintMore
attribute [local go_sem] max2_int min2_int max_two min_two max_three min_three max_four min_four   -- for this text's walks alone
set_option linter.unusedVariables false
set_option linter.unusedSimpArgs false

/-! ### gangwaylaw01_LebAligned: function 8 -/
def gangwaylaw01_LebAligned.j0 : Nat → Int → Int → Int → Int → Bool → Option (Bool)
  | 0, _, _, _, _, _ => none
  | k + 1, x0, x5, x6, x7, x30 => if x30 = true then ((gangwaylaw01_num.f x7).bind fun t105 => (if t105 = 11 then (if x0 > (wrap64 (9223372036854775807 - x5)) then ((gangwaylaw01_knows.f k).bind fun t106 => (some t106)) else (some false)) else (some false))) else ((leb_Align.f k x6 x5).bind fun bt107 => (if x5 = 0 then (none) else (if (Int.tmod x6 x5) = 0 then (if x6 ≥ x0 then (if (wrap64 (x6 - x0)) < x5 then ((gangwaylaw01_num.f bt107.2).bind fun t109 => (if t109 = 0 then (some (bt107.1 == x6)) else (some false))) else (some false)) else (some false)) else (some false))))
def gangwaylaw01_LebAligned.f (k : Nat) (a0 : Int) (a1 : Int) : Option (Bool) := if 0 ≤ (IntKind.u64.wrap (Int.tmod (wrap64 ((Int.tmod a1 31) + 31)) 31)) then ((leb_Align.f k (mx a0 0) (shl .i64 1 (IntKind.u64.wrap (Int.tmod (wrap64 ((Int.tmod a1 31) + 31)) 31)))).bind fun bt101 => ((gangwaylaw01_num.f bt101.2).bind fun t103 => (if t103 = 0 then ((gangwaylaw01_knows.f k).bind fun t104 => (gangwaylaw01_LebAligned.j0 k (mx a0 0) (shl .i64 1 (IntKind.u64.wrap (Int.tmod (wrap64 ((Int.tmod a1 31) + 31)) 31))) bt101.1 bt101.2 (!t104))) else (gangwaylaw01_LebAligned.j0 k (mx a0 0) (shl .i64 1 (IntKind.u64.wrap (Int.tmod (wrap64 ((Int.tmod a1 31) + 31)) 31))) bt101.1 bt101.2 true)))) else (none)
theorem gangwaylaw01_LebAligned.mono_l : ∀ k, (∀ y0 y1 y2 y3 y4, LeO (gangwaylaw01_LebAligned.j0 k y0 y1 y2 y3 y4) (gangwaylaw01_LebAligned.j0 (k + 1) y0 y1 y2 y3 y4))
  | 0 => fun _ _ _ _ _ r h => by simp [gangwaylaw01_LebAligned.j0] at h
  | k + 1 => by
    have ih0 := gangwaylaw01_LebAligned.mono_l k
    · intro y0 y1 y2 y3 y4
      unfold gangwaylaw01_LebAligned.j0
      repeat' first
      | (with_reducible exact ih0 _ _ _ _ _)
      | (with_reducible exact gangwaylaw01_knows.mono _)
      | (with_reducible exact leb_Align.mono _ _ _)
      | (with_reducible exact LeO.refl _)
      | (with_reducible exact LeO.none _)
      | (with_reducible refine LeO.ite ?_ ?_)
      | (with_reducible refine LeO.bind ?_ (fun _ => ?_))
      | exact ih0 _ _ _ _ _
      | exact gangwaylaw01_knows.mono _
      | exact leb_Align.mono _ _ _
      | exact LeO.none _
      | refine LeO.ite ?_ ?_
      | refine LeO.bind ?_ (fun _ => ?_)
theorem gangwaylaw01_LebAligned.mono : ∀ a0 a1 k, LeO (gangwaylaw01_LebAligned.f k a0 a1) (gangwaylaw01_LebAligned.f (k + 1) a0 a1) := by
  intro a0 a1 k
  have ih0 := gangwaylaw01_LebAligned.mono_l k
  unfold gangwaylaw01_LebAligned.f
  repeat' first
      | (with_reducible exact ih0 _ _ _ _ _)
      | (with_reducible exact gangwaylaw01_knows.mono _)
      | (with_reducible exact leb_Align.mono _ _ _)
      | (with_reducible exact LeO.refl _)
      | (with_reducible exact LeO.none _)
      | (with_reducible refine LeO.ite ?_ ?_)
      | (with_reducible refine LeO.bind ?_ (fun _ => ?_))
      | exact ih0 _ _ _ _ _
      | exact gangwaylaw01_knows.mono _
      | exact leb_Align.mono _ _ _
      | exact LeO.none _
      | refine LeO.ite ?_ ?_
      | refine LeO.bind ?_ (fun _ => ?_)
set_option maxHeartbeats 8000000 in
set_option maxRecDepth 100000 in
theorem gangwaylaw01_LebAligned.calls (k : Nat) (a0 : Int) (a1 : Int) (r : Bool) (w : World) (h : gangwaylaw01_LebAligned.f k a0 a1 = some r) :
    Calls Try.prog 8 #[.int .i64 a0, .int .i64 a1] w fun e w' => e = .returned (.bool r) ∧ Below w.heap.size w w' := by
  have HB := Aside0.mk (Below.refl w.heap.size w)
  have H : (if 0 ≤ (IntKind.u64.wrap (Int.tmod (wrap64 ((Int.tmod a1 31) + 31)) 31)) then ((leb_Align.f k (mx a0 0) (shl .i64 1 (IntKind.u64.wrap (Int.tmod (wrap64 ((Int.tmod a1 31) + 31)) 31)))).bind fun bt101 => ((gangwaylaw01_num.f bt101.2).bind fun t103 => (if t103 = 0 then ((gangwaylaw01_knows.f k).bind fun t104 => (gangwaylaw01_LebAligned.j0 k (mx a0 0) (shl .i64 1 (IntKind.u64.wrap (Int.tmod (wrap64 ((Int.tmod a1 31) + 31)) 31))) bt101.1 bt101.2 (!t104))) else (gangwaylaw01_LebAligned.j0 k (mx a0 0) (shl .i64 1 (IntKind.u64.wrap (Int.tmod (wrap64 ((Int.tmod a1 31) + 31)) 31))) bt101.1 bt101.2 true)))) else (none)) = some r := h
  clear h
  obtain ⟨ji3, hji3⟩ : ∃ j_ : Int, (mx a0 0) = j_ := ⟨_, rfl⟩
  replace H : (if 0 ≤ (IntKind.u64.wrap (Int.tmod (wrap64 ((Int.tmod a1 31) + 31)) 31)) then ((leb_Align.f k (ji3) (shl .i64 1 (IntKind.u64.wrap (Int.tmod (wrap64 ((Int.tmod a1 31) + 31)) 31)))).bind fun bt101 => ((gangwaylaw01_num.f bt101.2).bind fun t103 => (if t103 = 0 then ((gangwaylaw01_knows.f k).bind fun t104 => (gangwaylaw01_LebAligned.j0 k ji3 (shl .i64 1 (IntKind.u64.wrap (Int.tmod (wrap64 ((Int.tmod a1 31) + 31)) 31))) bt101.1 bt101.2 (!t104))) else (gangwaylaw01_LebAligned.j0 k ji3 (shl .i64 1 (IntKind.u64.wrap (Int.tmod (wrap64 ((Int.tmod a1 31) + 31)) 31))) bt101.1 bt101.2 true)))) else (none)) = some r := by first | (rw [hji3] at H; exact H) | (simp only [hji3] at H ⊢; exact H)
  (try (have hji3l : 0 ≤ ji3 := by (rw [← hji3]; unfold mx; (repeat' split) <;> omega)))
  (try (have hji3m : 0 ≤ ji3 := by omega))
  have hji3_ : (if a0 < 0 then 0 else a0) = ji3 := hji3
  obtain ⟨ji4, hji4⟩ : ∃ j_ : Int, (IntKind.u64.wrap (Int.tmod (wrap64 ((Int.tmod a1 31) + 31)) 31)) = j_ := ⟨_, rfl⟩
  replace H : (if 0 ≤ (ji4) then ((leb_Align.f k (ji3) (shl .i64 1 (ji4))).bind fun bt101 => ((gangwaylaw01_num.f bt101.2).bind fun t103 => (if t103 = 0 then ((gangwaylaw01_knows.f k).bind fun t104 => (gangwaylaw01_LebAligned.j0 k ji3 (shl .i64 1 (ji4)) bt101.1 bt101.2 (!t104))) else (gangwaylaw01_LebAligned.j0 k ji3 (shl .i64 1 (ji4)) bt101.1 bt101.2 true)))) else (none)) = some r := by first | (rw [hji4] at H; exact H) | (simp only [hji4] at H ⊢; exact H)
  by_cases c5 : 0 ≤ (ji4)
  · rw [if_pos c5] at H
    have c5b0 := eq_true c5
    have c5b1 : decide (0 ≤ (ji4)) = true := decide_eq_true c5
    clear c5
    obtain ⟨ji6, hji6⟩ : ∃ j_ : Int, (shl .i64 1 (ji4)) = j_ := ⟨_, rfl⟩
    replace H : ((leb_Align.f k (ji3) (ji6)).bind fun bt101 => ((gangwaylaw01_num.f bt101.2).bind fun t103 => (if t103 = 0 then ((gangwaylaw01_knows.f k).bind fun t104 => (gangwaylaw01_LebAligned.j0 k ji3 ji6 bt101.1 bt101.2 (!t104))) else (gangwaylaw01_LebAligned.j0 k ji3 ji6 bt101.1 bt101.2 true)))) = some r := by first | (rw [hji6] at H; exact H) | (simp only [hji6] at H ⊢; exact H)
    have hji6_ : (IntKind.i64.wrap (1 * 2 ^ min (ji4).toNat 64)) = ji6 := hji6
    have hji6z : (ji4) ≤ 64 → (IntKind.i64.wrap (1 * 2 ^ (ji4).toNat)) = ji6 := shl_small hji6
    have hji6u : (IntKind.i64.wrap (2 ^ min (ji4).toNat 64)) = ji6 := by have h_ := hji6_; rw [Int.one_mul] at h_; exact h_
    have hji6v : (ji4) ≤ 64 → (IntKind.i64.wrap (2 ^ (ji4).toNat)) = ji6 := fun hle_ => by have h_ := hji6z hle_; rw [Int.one_mul] at h_; exact h_
    have hji6y : (wrap64 (1 * 2 ^ min (ji4).toNat 64)) = ji6 := (i64_w _).symm.trans hji6_
    have hji6x : (ji4) ≤ 64 → (wrap64 (1 * 2 ^ (ji4).toNat)) = ji6 := fun h_ => (i64_w _).symm.trans (hji6z h_)
    replace H := Option.bind_eq_some_iff.mp H
    obtain ⟨⟨t101, t102⟩, A70, H⟩ := H
    replace H : ((gangwaylaw01_num.f t102).bind fun t103 => (if t103 = 0 then ((gangwaylaw01_knows.f k).bind fun t104 => (gangwaylaw01_LebAligned.j0 k ji3 ji6 t101 t102 (!t104))) else (gangwaylaw01_LebAligned.j0 k ji3 ji6 t101 t102 true))) = some r := H
    have A7 := Aside0.mk A70
    clear A70
    have HC8 := Aside0.mk H
    clear H
    go_enter Try.func8, Try.ntmps8
    go_upto_region 4 with (first | ((with_reducible refine gate_callee (f := 28) rfl ?_); refine goesL_ (some 21) rfl rfl Try.func28 (by kernel_rfl) rfl #[.int .i64 ji3, .int .i64 ji6] rfl (by (try simp only [List.map_toArray, List.map_cons, List.map_nil]); first | done | (simp only [hji3, hji6]; rfl) | rfl | (simp only [List.length_drop, List.length_take]; rfl)) ?_; (with_reducible refine (leb_Align.calls k ji3 ji6 t101 t102 _ A7.out).mono ?_); rintro e w' ⟨rfl, ⟨nd, rfl⟩⟩; refine ⟨_, rfl, ?_⟩))
    (try simp only [Act.put, List.setIfInBounds_toArray, List.set_cons_zero, List.set_cons_succ])
    go_cut [30] (fun v30 wc => ∃ (kq : Nat) (x30_7 : Bool), v30 = .bool x30_7 ∧ Aside0 (gangwaylaw01_LebAligned.j0 kq ji3 ji6 t101 t102 x30_7 = some r) ∧ Aside0 (kq ≤ k) ∧ Aside0 (Below w.heap.size w wc))
    case first =>
      have H := HC8.out
      clear HC8
      replace H := Option.bind_eq_some_iff.mp H
      obtain ⟨t103, A90, H⟩ := H
      replace H : (if t103 = 0 then ((gangwaylaw01_knows.f k).bind fun t104 => (gangwaylaw01_LebAligned.j0 k ji3 ji6 t101 t102 (!t104))) else (gangwaylaw01_LebAligned.j0 k ji3 ji6 t101 t102 true)) = some r := H
      have A9 := Aside0.mk A90
      clear A90
      by_cases c10 : t103 = 0
      · rw [if_pos c10] at H
        have c10b0 : (t103 == 0) = true := beq_iff_eq.mpr c10
        have c10b1 : (t103 != 0) = false := bne_eq_false_iff_eq.mpr c10
        clear c10
        (first | rw [c10b0] | (simp only [i64_w, i32_w]; rw [c10b0]) | skip)
        replace H := Option.bind_eq_some_iff.mp H
        obtain ⟨t104, A110, H⟩ := H
        replace H : (gangwaylaw01_LebAligned.j0 k ji3 ji6 t101 t102 (!t104)) = some r := H
        have A11 := Aside0.mk A110
        clear A110
        have H' := Aside0.mk H
        clear H
        go_wp2_with (first | ((with_reducible refine gate_callee (f := 20) rfl ?_); refine goesL_ (some 25) rfl rfl Try.func20 (by kernel_rfl) rfl #[.int .i64 t102] rfl (by (try simp only [List.map_toArray, List.map_cons, List.map_nil]); first | done | rfl | (simp only [List.length_drop, List.length_take]; rfl)) ?_; (with_reducible refine (gangwaylaw01_num.calls t102 t103 _ A9.out).mono ?_); rintro e w' ⟨rfl, ⟨nd, rfl⟩⟩; refine ⟨_, rfl, ?_⟩) | (go_at_call 14; (with_reducible refine (gangwaylaw01_knows.calls k  t104 _ A11.out).mono ?_); rintro e w12 ⟨rfl, hb⟩; have n0_ := Aside0.mk (below_step (by repeat (first | (with_reducible first | exact HB.out | apply below_alloc | apply pw_below_drewN | apply below_drew1) | exact HB.out)) hb); clear HB; have HB := n0_; clear n0_; (try clear hb); (try clear hb2); (try clear hk); (try clear hi)))
        go_meet
        case rel => exact ⟨_, (!t104), (by first | rfl | (simp; done) | (simp [*]; done)), H', ⟨by first | omega | exact Nat.le_refl _⟩, ⟨by repeat (first | (with_reducible first | exact HB.out | apply below_alloc | apply pw_below_drewN | apply below_drew1) | exact HB.out)⟩⟩
      · rw [if_neg c10] at H
        have c10b0 : (t103 == 0) = false := beq_eq_false_iff_ne.mpr c10
        have c10b1 : (t103 != 0) = true := bne_iff_ne.mpr c10
        (first | rw [c10b0] | (simp only [i64_w, i32_w]; rw [c10b0]) | skip)
        have H' := Aside0.mk H
        clear H
        go_wp2_with (first | ((with_reducible refine gate_callee (f := 20) rfl ?_); refine goesL_ (some 25) rfl rfl Try.func20 (by kernel_rfl) rfl #[.int .i64 t102] rfl (by (try simp only [List.map_toArray, List.map_cons, List.map_nil]); first | done | rfl | (simp only [List.length_drop, List.length_take]; rfl)) ?_; (with_reducible refine (gangwaylaw01_num.calls t102 t103 _ A9.out).mono ?_); rintro e w' ⟨rfl, ⟨nd, rfl⟩⟩; refine ⟨_, rfl, ?_⟩))
        go_meet
        case rel => exact ⟨_, (true), (by first | rfl | (simp; done) | (simp [*]; done)), H', ⟨by first | omega | exact Nat.le_refl _⟩, ⟨by repeat (first | (with_reducible first | exact HB.out | apply below_alloc | apply pw_below_drewN | apply below_drew1) | exact HB.out)⟩⟩
    case rest =>
      clear HC8
      try clear c1
      try clear c2
      try clear p2
      try clear c5
      try clear c5b0
      try clear c5b1
      try clear p6
      try clear c8
      try clear c10
      try clear c10b0
      try clear c10b1
      obtain ⟨kq, x30_7, rfl, HA, HJ7, HB⟩ := hcut
      cases kq with
      | zero => exact absurd HA.out (by simp [gangwaylaw01_LebAligned.j0])
      | succ kj7 =>
        have H := HA.out
        clear HA
        simp only [gangwaylaw01_LebAligned.j0] at H
        by_cases c13 : x30_7 = true
        · subst c13
          have H1 : ((gangwaylaw01_num.f t102).bind fun t105 => (if t105 = 11 then (if ji3 > (wrap64 (9223372036854775807 - ji6)) then ((gangwaylaw01_knows.f kj7).bind fun t106 => (some t106)) else (some false)) else (some false))) = some r := by rw [if_pos rfl] at H; exact H
          clear H
          have H := H1
          clear H1
          replace H := Option.bind_eq_some_iff.mp H
          obtain ⟨t105, A140, H⟩ := H
          replace H : (if t105 = 11 then (if ji3 > (wrap64 (9223372036854775807 - ji6)) then ((gangwaylaw01_knows.f kj7).bind fun t106 => (some t106)) else (some false)) else (some false)) = some r := H
          have A14 := Aside0.mk A140
          clear A140
          by_cases c15 : t105 = 11
          · rw [if_pos c15] at H
            have c15b0 : (t105 == 11) = true := beq_iff_eq.mpr c15
            have c15b1 : (t105 != 11) = false := bne_eq_false_iff_eq.mpr c15
            clear c15
            by_cases c16 : ji3 > (wrap64 (9223372036854775807 - ji6))
            · rw [if_pos c16] at H
              have c16b0 : decide ((wrap64 (9223372036854775807 - ji6)) < ji3) = true := decide_eq_true c16
              clear c16
              replace H := Option.bind_eq_some_iff.mp H
              obtain ⟨t106, A170, H⟩ := H
              replace H : (some t106) = some r := H
              have A17 := Aside0.mk A170
              clear A170
              obtain rfl := Option.some.inj H
              go_wp2_with (first | ((with_reducible refine gate_callee (f := 20) rfl ?_); refine goesL_ (some 32) rfl rfl Try.func20 (by kernel_rfl) rfl #[.int .i64 t102] rfl (by (try simp only [List.map_toArray, List.map_cons, List.map_nil]); first | done | rfl | (simp only [List.length_drop, List.length_take]; rfl)) ?_; (with_reducible refine (gangwaylaw01_num.calls t102 t105 _ A14.out).mono ?_); rintro e w' ⟨rfl, ⟨nd, rfl⟩⟩; refine ⟨_, rfl, ?_⟩) | (go_at_call 14; (with_reducible refine (gangwaylaw01_knows.calls kj7  t106 _ A17.out).mono ?_); rintro e w18 ⟨rfl, hb⟩; have n0_ := Aside0.mk (below_step (by repeat (first | (with_reducible first | exact HB.out | apply below_alloc | apply pw_below_drewN | apply below_drew1) | exact HB.out)) hb); clear HB; have HB := n0_; clear n0_; (try clear hb); (try clear hb2); (try clear hk); (try clear hi)))
              go_ret
              exact ⟨by first | rfl | (simp [errW_none, errW_some] <;> rfl) | (simp only [← hji3, ← hji4, ← hji6]; first | rfl | (simp [errW_none, errW_some] <;> rfl)) | (simp [*, errW_none, errW_some] <;> rfl), by repeat (first | (with_reducible first | exact HB.out | apply below_alloc | apply pw_below_drewN | apply below_drew1) | exact HB.out)⟩
            · rw [if_neg c16] at H
              have c16b0 : decide ((wrap64 (9223372036854775807 - ji6)) < ji3) = false := decide_eq_false c16
              clear c16
              obtain rfl := Option.some.inj H
              go_wp2_with (first | ((with_reducible refine gate_callee (f := 20) rfl ?_); refine goesL_ (some 32) rfl rfl Try.func20 (by kernel_rfl) rfl #[.int .i64 t102] rfl (by (try simp only [List.map_toArray, List.map_cons, List.map_nil]); first | done | rfl | (simp only [List.length_drop, List.length_take]; rfl)) ?_; (with_reducible refine (gangwaylaw01_num.calls t102 t105 _ A14.out).mono ?_); rintro e w' ⟨rfl, ⟨nd, rfl⟩⟩; refine ⟨_, rfl, ?_⟩))
              go_ret
              exact ⟨by first | rfl | (simp [errW_none, errW_some] <;> rfl) | (simp only [← hji3, ← hji4, ← hji6]; first | rfl | (simp [errW_none, errW_some] <;> rfl)) | (simp [*, errW_none, errW_some] <;> rfl), by repeat (first | (with_reducible first | exact HB.out | apply below_alloc | apply pw_below_drewN | apply below_drew1) | exact HB.out)⟩
          · rw [if_neg c15] at H
            have c15b0 : (t105 == 11) = false := beq_eq_false_iff_ne.mpr c15
            have c15b1 : (t105 != 11) = true := bne_iff_ne.mpr c15
            obtain rfl := Option.some.inj H
            go_wp2_with (first | ((with_reducible refine gate_callee (f := 20) rfl ?_); refine goesL_ (some 32) rfl rfl Try.func20 (by kernel_rfl) rfl #[.int .i64 t102] rfl (by (try simp only [List.map_toArray, List.map_cons, List.map_nil]); first | done | rfl | (simp only [List.length_drop, List.length_take]; rfl)) ?_; (with_reducible refine (gangwaylaw01_num.calls t102 t105 _ A14.out).mono ?_); rintro e w' ⟨rfl, ⟨nd, rfl⟩⟩; refine ⟨_, rfl, ?_⟩))
            go_ret
            exact ⟨by first | rfl | (simp [errW_none, errW_some] <;> rfl) | (simp only [← hji3, ← hji4, ← hji6]; first | rfl | (simp [errW_none, errW_some] <;> rfl)) | (simp [*, errW_none, errW_some] <;> rfl), by repeat (first | (with_reducible first | exact HB.out | apply below_alloc | apply pw_below_drewN | apply below_drew1) | exact HB.out)⟩
        · replace c13 := Bool.eq_false_iff.mpr c13
          subst c13
          have H1 : ((leb_Align.f kj7 t101 ji6).bind fun bt107 => (if ji6 = 0 then (none) else (if (Int.tmod t101 ji6) = 0 then (if t101 ≥ ji3 then (if (wrap64 (t101 - ji3)) < ji6 then ((gangwaylaw01_num.f bt107.2).bind fun t109 => (if t109 = 0 then (some (bt107.1 == t101)) else (some false))) else (some false)) else (some false)) else (some false)))) = some r := by rw [if_neg (show ¬ (false = true) by decide)] at H; exact H
          clear H
          have H := H1
          clear H1
          replace H := Option.bind_eq_some_iff.mp H
          obtain ⟨⟨t107, t108⟩, A190, H⟩ := H
          replace H : (if ji6 = 0 then (none) else (if (Int.tmod t101 ji6) = 0 then (if t101 ≥ ji3 then (if (wrap64 (t101 - ji3)) < ji6 then ((gangwaylaw01_num.f t108).bind fun t109 => (if t109 = 0 then (some (t107 == t101)) else (some false))) else (some false)) else (some false)) else (some false))) = some r := H
          have A19 := Aside0.mk A190
          clear A190
          by_cases c20 : ji6 = 0
          · rw [if_pos c20] at H
            exact absurd H (by simp)
          · rw [if_neg c20] at H
            have c20b0 : (ji6 == 0) = false := beq_eq_false_iff_ne.mpr c20
            have c20b1 : (ji6 != 0) = true := bne_iff_ne.mpr c20
            by_cases c21 : (Int.tmod t101 ji6) = 0
            · rw [if_pos c21] at H
              have c21b0 : ((Int.tmod t101 ji6) == 0) = true := beq_iff_eq.mpr c21
              have c21b1 : ((Int.tmod t101 ji6) != 0) = false := bne_eq_false_iff_eq.mpr c21
              clear c21
              by_cases c22 : t101 ≥ ji3
              · rw [if_pos c22] at H
                have c22b0 : decide (ji3 ≤ t101) = true := decide_eq_true c22
                clear c22
                by_cases c23 : (wrap64 (t101 - ji3)) < ji6
                · rw [if_pos c23] at H
                  have c23b0 : decide ((wrap64 (t101 - ji3)) < ji6) = true := decide_eq_true c23
                  clear c23
                  replace H := Option.bind_eq_some_iff.mp H
                  obtain ⟨t109, A240, H⟩ := H
                  replace H : (if t109 = 0 then (some (t107 == t101)) else (some false)) = some r := H
                  have A24 := Aside0.mk A240
                  clear A240
                  by_cases c25 : t109 = 0
                  · rw [if_pos c25] at H
                    have c25b0 : (t109 == 0) = true := beq_iff_eq.mpr c25
                    have c25b1 : (t109 != 0) = false := bne_eq_false_iff_eq.mpr c25
                    clear c25
                    obtain rfl := Option.some.inj H
                    go_wp2_with (first | ((with_reducible refine gate_callee (f := 28) rfl ?_); refine goesL_ (some 46) rfl rfl Try.func28 (by kernel_rfl) rfl #[.int .i64 t101, .int .i64 ji6] rfl (by (try simp only [List.map_toArray, List.map_cons, List.map_nil]); first | done | (simp only [hji6]; rfl) | rfl | (simp only [List.length_drop, List.length_take]; rfl)) ?_; (with_reducible refine (leb_Align.calls kj7 t101 ji6 t107 t108 _ A19.out).mono ?_); rintro e w' ⟨rfl, ⟨nd, rfl⟩⟩; refine ⟨_, rfl, ?_⟩) | (go_at_call 20; (with_reducible refine (gangwaylaw01_num.calls t108 t109 _ A24.out).mono ?_); rintro e w' ⟨rfl, ⟨nd, rfl⟩⟩))
                    go_ret
                    exact ⟨by first | rfl | (simp [errW_none, errW_some] <;> rfl) | (simp only [← hji3, ← hji4, ← hji6]; first | rfl | (simp [errW_none, errW_some] <;> rfl)) | (simp [*, errW_none, errW_some] <;> rfl), by repeat (first | (with_reducible first | exact HB.out | apply below_alloc | apply pw_below_drewN | apply below_drew1) | exact HB.out)⟩
                  · rw [if_neg c25] at H
                    have c25b0 : (t109 == 0) = false := beq_eq_false_iff_ne.mpr c25
                    have c25b1 : (t109 != 0) = true := bne_iff_ne.mpr c25
                    obtain rfl := Option.some.inj H
                    go_wp2_with (first | ((with_reducible refine gate_callee (f := 28) rfl ?_); refine goesL_ (some 46) rfl rfl Try.func28 (by kernel_rfl) rfl #[.int .i64 t101, .int .i64 ji6] rfl (by (try simp only [List.map_toArray, List.map_cons, List.map_nil]); first | done | (simp only [hji6]; rfl) | rfl | (simp only [List.length_drop, List.length_take]; rfl)) ?_; (with_reducible refine (leb_Align.calls kj7 t101 ji6 t107 t108 _ A19.out).mono ?_); rintro e w' ⟨rfl, ⟨nd, rfl⟩⟩; refine ⟨_, rfl, ?_⟩) | (go_at_call 20; (with_reducible refine (gangwaylaw01_num.calls t108 t109 _ A24.out).mono ?_); rintro e w' ⟨rfl, ⟨nd, rfl⟩⟩))
                    go_ret
                    exact ⟨by first | rfl | (simp [errW_none, errW_some] <;> rfl) | (simp only [← hji3, ← hji4, ← hji6]; first | rfl | (simp [errW_none, errW_some] <;> rfl)) | (simp [*, errW_none, errW_some] <;> rfl), by repeat (first | (with_reducible first | exact HB.out | apply below_alloc | apply pw_below_drewN | apply below_drew1) | exact HB.out)⟩
                · rw [if_neg c23] at H
                  have c23b0 : decide ((wrap64 (t101 - ji3)) < ji6) = false := decide_eq_false c23
                  clear c23
                  obtain rfl := Option.some.inj H
                  go_wp2_with (first | ((with_reducible refine gate_callee (f := 28) rfl ?_); refine goesL_ (some 46) rfl rfl Try.func28 (by kernel_rfl) rfl #[.int .i64 t101, .int .i64 ji6] rfl (by (try simp only [List.map_toArray, List.map_cons, List.map_nil]); first | done | (simp only [hji6]; rfl) | rfl | (simp only [List.length_drop, List.length_take]; rfl)) ?_; (with_reducible refine (leb_Align.calls kj7 t101 ji6 t107 t108 _ A19.out).mono ?_); rintro e w' ⟨rfl, ⟨nd, rfl⟩⟩; refine ⟨_, rfl, ?_⟩))
                  go_ret
                  exact ⟨by first | rfl | (simp [errW_none, errW_some] <;> rfl) | (simp only [← hji3, ← hji4, ← hji6]; first | rfl | (simp [errW_none, errW_some] <;> rfl)) | (simp [*, errW_none, errW_some] <;> rfl), by repeat (first | (with_reducible first | exact HB.out | apply below_alloc | apply pw_below_drewN | apply below_drew1) | exact HB.out)⟩
              · rw [if_neg c22] at H
                have c22b0 : decide (ji3 ≤ t101) = false := decide_eq_false c22
                clear c22
                obtain rfl := Option.some.inj H
                go_wp2_with (first | ((with_reducible refine gate_callee (f := 28) rfl ?_); refine goesL_ (some 46) rfl rfl Try.func28 (by kernel_rfl) rfl #[.int .i64 t101, .int .i64 ji6] rfl (by (try simp only [List.map_toArray, List.map_cons, List.map_nil]); first | done | (simp only [hji6]; rfl) | rfl | (simp only [List.length_drop, List.length_take]; rfl)) ?_; (with_reducible refine (leb_Align.calls kj7 t101 ji6 t107 t108 _ A19.out).mono ?_); rintro e w' ⟨rfl, ⟨nd, rfl⟩⟩; refine ⟨_, rfl, ?_⟩))
                go_ret
                exact ⟨by first | rfl | (simp [errW_none, errW_some] <;> rfl) | (simp only [← hji3, ← hji4, ← hji6]; first | rfl | (simp [errW_none, errW_some] <;> rfl)) | (simp [*, errW_none, errW_some] <;> rfl), by repeat (first | (with_reducible first | exact HB.out | apply below_alloc | apply pw_below_drewN | apply below_drew1) | exact HB.out)⟩
            · rw [if_neg c21] at H
              have c21b0 : ((Int.tmod t101 ji6) == 0) = false := beq_eq_false_iff_ne.mpr c21
              have c21b1 : ((Int.tmod t101 ji6) != 0) = true := bne_iff_ne.mpr c21
              obtain rfl := Option.some.inj H
              go_wp2_with (first | ((with_reducible refine gate_callee (f := 28) rfl ?_); refine goesL_ (some 46) rfl rfl Try.func28 (by kernel_rfl) rfl #[.int .i64 t101, .int .i64 ji6] rfl (by (try simp only [List.map_toArray, List.map_cons, List.map_nil]); first | done | (simp only [hji6]; rfl) | rfl | (simp only [List.length_drop, List.length_take]; rfl)) ?_; (with_reducible refine (leb_Align.calls kj7 t101 ji6 t107 t108 _ A19.out).mono ?_); rintro e w' ⟨rfl, ⟨nd, rfl⟩⟩; refine ⟨_, rfl, ?_⟩))
              go_ret
              exact ⟨by first | rfl | (simp [errW_none, errW_some] <;> rfl) | (simp only [← hji3, ← hji4, ← hji6]; first | rfl | (simp [errW_none, errW_some] <;> rfl)) | (simp [*, errW_none, errW_some] <;> rfl), by repeat (first | (with_reducible first | exact HB.out | apply below_alloc | apply pw_below_drewN | apply below_drew1) | exact HB.out)⟩
  · rw [if_neg c5] at H
    exact absurd H (by simp)

/-- THE ONE PURE STATEMENT of gangwaylaw01_LebAligned: yours. -/
def gangwaylaw01_LebAligned.Pure : Prop := ∀ (a0 : Int) (a1 : Int), (Lit.int .i64 a0).wf = true → (Lit.int .i64 a1).wf = true → ∃ k, gangwaylaw01_LebAligned.f k a0 a1 = some true
theorem gangwaylaw01_LebAligned.walk (P : gangwaylaw01_LebAligned.Pure) (a0 : Int) (a1 : Int) (w : World) (w0 : (Lit.int .i64 a0).wf = true) (w1 : (Lit.int .i64 a1).wf = true) :
    Calls Try.prog 8 #[.int .i64 a0, .int .i64 a1] w fun e w' => e = .returned (.bool true) ∧ Below w.heap.size w w' := by
  obtain ⟨k, h⟩ := P a0 a1 w0 w1
  refine (gangwaylaw01_LebAligned.calls k a0 a1 true w h).mono ?_
  rintro e w' ⟨rfl, hd⟩
  exact ⟨rfl, hd⟩

end Go.Proofs.Ytjcabmopajhggaa.G
