/- Each theorem here says what a call of one Go function returns, and what it leaves of the memory, for the arguments that its hypotheses name. Printed by a driver of this session over the kit's printer; what stands behind GIVENBYHAND is this session's own text. -/
import Derived.Test.YtjcabmopajhggaaG0
import Derived.Test.YtjcabmopajhggaaGf38
import Derived.Test.YtjcabmopajhggaaGf37
import Derived.Laws.EntriesVeiled
import Derived.Lib.Hide
namespace Go.Proofs.Ytjcabmopajhggaa.G
open Go.RowKit Go.Proofs.YtjcabmopajhggaaW.PrintWords Go.Proofs.YtjcabmopajhggaaW.PrintLast Go.Proofs.YtjcabmopajhggaaW.PrintMore
attribute [local go_sem] max2_int min2_int max_two min_two max_three min_three max_four min_four   -- for this text's walks alone
set_option linter.unusedVariables false
set_option linter.unusedSimpArgs false

/-! ### leb_ReadUleb: function 22 -/
-- GIVENBYHAND Derived.Laws.EntriesVeiled Derived.Lib.Hide
/-- how many bytes the number that begins here has; or why it is none -/
def lebGrp : List Int → Nat → Nat ⊕ Int
  | [], _ => .inr 20
  | x :: xs, n => if n = 10 then .inr 21 else if x < 128 then .inl (n + 1) else lebGrp xs (n + 1)
theorem lebGrp_drop (l : List Int) (i : Nat) (hi : i < l.length) (n : Nat) : lebGrp (l.drop i) n = if n = 10 then .inr 21 else if rd l i < 128 then .inl (n + 1) else lebGrp (l.drop (i + 1)) (n + 1) := by
  rw [List.drop_eq_getElem_cons hi]
  simp only [lebGrp]
  have : rd l i = l[i] := by simp [rd, List.getD, hi]
  rw [this]
def lebAt (l0 : List Int) (a1 : Int) : Nat ⊕ Int := if a1 < 0 ∨ (l0.length : Int) ≤ a1 then .inr 20 else lebGrp (l0.drop a1.toNat) 0
/-- what 'groups' returns, as a value -/
def lebGrpOut (A0 : Option Addr) (c0 : Nat) (l0 : List Int) (a1 : Int) (e : Ending) : Prop :=
  match lebAt l0 a1 with
  | .inr er => e = .returned (.tuple #[.slice none 0 0, .int .i64 0, .int .i64 er])
  | .inl n => ∃ ad, A0 = some ad ∧ e = .returned (.tuple #[.slice (some (ad.add a1.toNat)) n (c0 - a1.toNat), .int .i64 (a1 + n), .int .i64 0])
theorem lebGroups_calls (A0 : Option Addr) (c0 : Nat) (l0 : List Int) (a1 : Int) (w : World) (hr0 : Kd.C (Kd.int .u8) w A0 l0.length l0) (hc0 : l0.length ≤ c0) :
    Calls Try.prog 47 #[.slice A0 l0.length c0, .int .i64 a1] w fun e w' => lebGrpOut A0 c0 l0 a1 e ∧ w = w' := by
  have hll : l0.length ≤ 9223372036854775807 := hr0.2.1
  have HR0 := Aside0.mk hr0
  clear hr0
  by_cases h0 : a1 < 0
  · have h0b : decide (a1 < 0) = true := by simpa using h0
    go_enter Try.func47, Try.ntmps47
    go_wp2
    go_ret3
    refine ⟨?_, rfl⟩
    simp [lebGrpOut, lebAt, h0]
  have h0b : decide (a1 < 0) = false := by simpa using h0
  by_cases h1 : (l0.length : Int) ≤ a1
  · have h1b : decide ((l0.length : Int) ≤ a1) = true := by simpa using h1
    go_enter Try.func47, Try.ntmps47
    go_wp2
    go_ret3
    refine ⟨?_, rfl⟩
    simp [lebGrpOut, lebAt, h1]
  clear h0b
  obtain ⟨m, rfl⟩ := Int.eq_ofNat_of_zero_le (show 0 ≤ a1 by omega)
  have hm : m < l0.length := by omega
  have h0b : decide ((m : Int) < 0) = false := by simp
  have h1b : decide ((l0.length : Int) ≤ (m : Int)) = false := by simp; omega
  have h1c : decide (l0.length ≤ m) = false := by simp; omega
  go_enter Try.func47, Try.ntmps47
  go_wp2
  go_loop [7] (fun v => ∃ n : Nat, n ≤ 10 ∧ m + n ≤ l0.length ∧ v = .int .i64 ((m : Int) + n) ∧ Aside0 (lebGrp (l0.drop m) 0 = lebGrp (l0.drop (m + n)) n)) (fun v => l0.length - (intOf v).toNat)
  case atStart => exact ⟨0, by omega, by omega, by simp, ⟨rfl⟩⟩
  case round =>
    obtain ⟨n, hn, hmn, rfl, HA⟩ := hrel
    by_cases hlt : m + n < l0.length
    · have hltb : decide ((m : Int) + n < (l0.length : Int)) = true := by simp; omega
      by_cases h10 : n = 10
      · subst h10
        go_wp2
        go_ret3
        refine ⟨?_, rfl⟩
        have h := HA.out
        rw [lebGrp_drop _ _ hlt, if_pos rfl] at h
        simp only [lebGrpOut, lebAt]
        rw [if_neg (by omega), Int.toNat_natCast, h]
        rfl
      · have h10b : ((m : Int) + n - m == 10) = false := by simp; omega
        obtain ⟨ad, rfl, hx⟩ := Kd.at_int HR0.out ((m : Int) + n) (by omega) (by omega)
        have hxn : rd l0 ((m : Int) + n) = rd l0 ((m + n : Nat) : Int) := by simp
        rw [show ((m : Int) + n).toNat = m + n from by omega, hxn] at hx
        clear hxn
        have h := HA.out
        rw [lebGrp_drop _ _ hlt, if_neg h10] at h
        generalize rd l0 ((m + n : Nat) : Int) = b at hx h
        by_cases h128 : b < 128
        · have hb : decide (b < 128) = true := by simpa using h128
          rw [if_pos h128] at h
          replace h := Aside0.mk h
          go_wp2
          go_ret3
          refine ⟨?_, rfl⟩
          simp only [lebGrpOut, lebAt]
          rw [if_neg (by omega), Int.toNat_natCast, h.out]
          refine ⟨ad, rfl, ?_⟩
          simp
          omega
        · have hb : decide (b < 128) = false := by simpa using h128
          rw [if_neg h128] at h
          replace h := Aside0.mk h
          go_wp2
          go_round
          case rel => exact ⟨n + 1, by omega, by omega, by go_num, ⟨by rw [h.out]; rfl⟩⟩
          case measure => simp [intOf]; omega
    · have hltb : decide ((m : Int) + n < (l0.length : Int)) = false := by simp; omega
      have hlen : m + n = l0.length := by omega
      have h : Aside0 (lebGrp (l0.drop m) 0 = .inr 20) := ⟨by rw [HA.out, hlen]; simp [lebGrp]⟩
      clear hlen
      go_wp2
      go_ret3
      refine ⟨?_, rfl⟩
      simp only [lebGrpOut, lebAt]
      rw [if_neg (by omega), Int.toNat_natCast, h.out]
      rfl
/-- the bits of groups, joined -/
def lebJn : List Int → Nat → Int → Int
  | [], _, u => u
  | x :: xs, i, u => lebJn xs (i + 1) (Go.bits .or .u64 u (shl .u64 (IntKind.u64.wrap (Go.bits .and .u8 x 127)) (7 * (i : Int))))
theorem lebJoined_ev (g : List Int) (hg : g.length ≤ 1000) (d : Nat) : ∀ (k i : Nat) (u : Int), i ≤ g.length → g.length - i = d → d < k →
    leb_joined.l0 k u g (g.length : Int) (i : Int) = some (lebJn (g.drop i) i u) := by
  induction d with
  | zero =>
    intro k i u hi hd hk
    obtain ⟨k, rfl⟩ : ∃ m, k = m + 1 := ⟨k - 1, by omega⟩
    have : i = g.length := by omega
    subst this
    simp only [leb_joined.l0]
    rw [if_neg (by omega), List.drop_length]
    rfl
  | succ d ih =>
    intro k i u hi hd hk
    obtain ⟨k, rfl⟩ : ∃ m, k = m + 1 := ⟨k - 1, by omega⟩
    have hlt : i < g.length := by omega
    have w7 : wrap64 (7 * (i : Int)) = 7 * (i : Int) := by unfold wrap64; omega
    have w1 : wrap64 ((i : Int) + 1) = ((i + 1 : Nat) : Int) := by unfold wrap64; omega
    simp only [leb_joined.l0]
    rw [if_pos (by omega), if_pos (by omega), if_pos (by omega), w7, if_pos (by omega), w1, ih k (i + 1) _ (by omega) (by omega) (by omega)]
    rw [List.drop_eq_getElem_cons hlt]
    have : rd g (i : Int) = g[i] := by simp [rd, List.getD, hlt]
    rw [this]
    rfl
theorem lebJoined_some (g : List Int) (hg : g.length ≤ 1000) : leb_joined.f 1001 g = some (lebJn g 0 0) := by
  unfold leb_joined.f
  have := lebJoined_ev g hg g.length 1001 0 0 (by omega) (by omega) (by omega)
  simpa using this
theorem lebGrp_le (l : List Int) : ∀ n m, lebGrp l n = .inl m → n < m ∧ m ≤ n + l.length := by
  induction l with
  | nil => intro n m h; simp [lebGrp] at h
  | cons x xs ih =>
    intro n m h
    simp only [lebGrp] at h
    split at h
    · cases h
    · split at h
      · cases h
        simp
      · have := ih _ _ h
        simp
        omega
theorem lebGrp_10 (l : List Int) : ∀ n m, n ≤ 10 → lebGrp l n = .inl m → m ≤ 10 := by
  induction l with
  | nil => intro n m _ h; simp [lebGrp] at h
  | cons x xs ih =>
    intro n m hn h
    simp only [lebGrp] at h
    split at h
    · cases h
    · split at h
      · cases h
        omega
      · exact ih _ _ (by omega) h
theorem lebGrp_err (l : List Int) : ∀ n er, lebGrp l n = .inr er → er = 20 ∨ er = 21 := by
  induction l with
  | nil => intro n er h; simp [lebGrp] at h; exact .inl h.symm
  | cons x xs ih =>
    intro n er h
    simp only [lebGrp] at h
    split at h
    · cases h; exact .inr rfl
    · split at h
      · cases h
      · exact ih _ _ h
theorem lebAt_err {l : List Int} {a1 er : Int} (h : lebAt l a1 = .inr er) : er = 20 ∨ er = 21 := by
  unfold lebAt at h
  split at h
  · cases h; exact .inl rfl
  · exact lebGrp_err _ _ _ h
theorem lebAt_ok {l : List Int} {a1 : Int} {n : Nat} (h : lebAt l a1 = .inl n) : 0 ≤ a1 ∧ 0 < n ∧ n ≤ 10 ∧ a1.toNat + n ≤ l.length := by
  unfold lebAt at h
  split at h
  · cases h
  · have h1 := lebGrp_le _ _ _ h
    have h2 := lebGrp_10 _ _ _ (by omega) h
    rw [List.length_drop] at h1
    omega
theorem lebGrpOut_err {A0 : Option Addr} {c0 : Nat} {l0 : List Int} {a1 er : Int} {e : Ending} (hL : lebAt l0 a1 = .inr er) (h : lebGrpOut A0 c0 l0 a1 e) : e = .returned (.tuple #[.slice none 0 0, .int .i64 0, .int .i64 er]) := by
  unfold lebGrpOut at h
  rw [hL] at h
  exact h
theorem lebGrpOut_ok {A0 : Option Addr} {c0 : Nat} {l0 : List Int} {a1 : Int} {n : Nat} {e : Ending} (hL : lebAt l0 a1 = .inl n) (h : lebGrpOut A0 c0 l0 a1 e) : ∃ ad, A0 = some ad ∧ e = .returned (.tuple #[.slice (some (ad.add a1.toNat)) n (c0 - a1.toNat), .int .i64 (a1 + n), .int .i64 0]) := by
  unfold lebGrpOut at h
  rw [hL] at h
  exact h
/-- the groups' own bytes -/
def lebCut (l0 : List Int) (a1 : Int) (n : Nat) : List Int := (l0.take (a1.toNat + n)).drop a1.toNat
theorem lebCut_length {l0 : List Int} {a1 : Int} {n : Nat} (h : a1.toNat + n ≤ l0.length) : (lebCut l0 a1 n).length = n := by
  unfold lebCut
  rw [List.length_drop, List.length_take]
  omega
theorem lebCut_reads {w : World} {ad : Addr} {c0 : Nat} {l0 : List Int} {a1 : Int} {n : Nat} (hr0 : Kd.C (Kd.int .u8) w (some ad) l0.length l0) (hc0 : l0.length ≤ c0) (hn : 0 < n) (h : a1.toNat + n ≤ l0.length) :
    Kd.C (Kd.int .u8) w (some (ad.add a1.toNat)) (lebCut l0 a1 n).length (lebCut l0 a1 n) := by
  have := Kd.C_mid (lo := a1.toNat) (hi := a1.toNat + n) (c := c0) hr0 (by omega) h hc0
  rw [if_neg (by omega)] at this
  unfold lebCut
  simpa [Kd.int, Kd.scalar] using this
def lebReadU (l0 : List Int) (a1 : Int) : Int × Int × Int :=
  match lebAt l0 a1 with
  | .inr er => (0, 0, er)
  | .inl n => if n < 10 ∨ rd (lebCut l0 a1 n) 9 ≤ 1 then (lebJn (lebCut l0 a1 n) 0 0, a1 + n, 0) else (0, 0, 21)
theorem lebReadU_calls (A0 : Option Addr) (c0 : Nat) (l0 : List Int) (a1 : Int) (w : World) (hr0 : Kd.C (Kd.int .u8) w A0 l0.length l0) (hc0 : l0.length ≤ c0) :
    Calls Try.prog 39 #[.agg #[.func (.func 37) #[] #[]], .slice A0 l0.length c0, .int .i64 a1] w fun e w' =>
      e = .returned (.tuple #[.int .u64 (lebReadU l0 a1).1, .int .i64 (lebReadU l0 a1).2.1, .int .i64 (lebReadU l0 a1).2.2]) ∧ Below w.heap.size w w' := by
  have HR0 := Aside0.mk hr0
  have hb0 := Below.refl w.heap.size w
  cases hL : lebAt l0 a1 with
  | inr er =>
    have hf : lebReadU l0 a1 = (0, 0, er) := by unfold lebReadU; rw [hL]
    rw [hf]
    have her := lebAt_err hL
    have HL := Lib.hid hL
    clear hL hf hr0
    have hu := Try.underlying62
    rcases her with rfl | rfl
    all_goals
      go_enter Try.func39, Try.ntmps39
      go_wp2_with fail
      refine (lebGroups_calls A0 c0 l0 a1 _ (Kd.C_alloc HR0.out _) hc0).mono ?_
      rintro e w' ⟨hg, rfl⟩
      obtain rfl := lebGrpOut_err HL.out hg
      clear hg
      go_wp2
      go_ret3
      exact ⟨rfl, below_alloc hb0 _⟩
  | inl n =>
    obtain ⟨h0, hn, hn10, hln⟩ := lebAt_ok hL
    have hf : lebReadU l0 a1 = if n < 10 ∨ rd (lebCut l0 a1 n) 9 ≤ 1 then (lebJn (lebCut l0 a1 n) 0 0, a1 + n, 0) else (0, 0, 21) := by unfold lebReadU; rw [hL]
    rw [hf]
    have hlen := lebCut_length (l0 := l0) (a1 := a1) hln
    have HLN := Lib.hid hlen
    have hone : leb_ReadUleb_1.f 1001 (lebCut l0 a1 n) = some (lebJn (lebCut l0 a1 n) 0 0, decide (n < 10 ∨ rd (lebCut l0 a1 n) 9 ≤ 1)) := by
      unfold leb_ReadUleb_1.f
      rw [lebJoined_some _ (by rw [hlen]; omega), Option.bind_some, hlen]
      by_cases h10 : n < 10
      · rw [if_pos (by omega)]
        simp [h10]
      · rw [if_neg (by omega), if_pos (by omega)]
        simp [h10]
    have HL := Lib.hid hL
    have HF := Lib.hid hf
    have HONE := Lib.hid hone
    clear hL hf hr0 hone hlen
    have hu := Try.underlying62
    by_cases hok : n < 10 ∨ rd (lebCut l0 a1 n) 9 ≤ 1
    · have HOK := Lib.hid hok
      clear hok
      go_enter Try.func39, Try.ntmps39
      go_wp2_with fail
      refine (lebGroups_calls A0 c0 l0 a1 _ (Kd.C_alloc HR0.out _) hc0).mono ?_
      rintro e w' ⟨hg, rfl⟩
      obtain ⟨ad, rfl, rfl⟩ := lebGrpOut_ok HL.out hg
      clear hg
      have hr1 := lebCut_reads (n := n) HR0.out hc0 hn hln
      go_wp2_with fail
      have hc := leb_ReadUleb_1.calls 1001 (some (ad.add a1.toNat)) (c0 - a1.toNat) (lebCut l0 a1 n) _ _ _ (Kd.C_alloc hr1 (Obj.cells #[Value.func (Fn.func 37) #[] #[]] 62)) (by rw [HLN.out]; omega) HONE.out
      rw [HLN.out] at hc
      refine hc.mono ?_
      clear hc hr1
      rintro e w' ⟨rfl, ⟨nd, rfl⟩⟩
      have hd : decide (n < 10 ∨ rd (lebCut l0 a1 n) 9 ≤ 1) = true := by simp [HOK.out]
      rw [hd]
      clear hd
      go_wp2
      go_ret3
      refine ⟨?_, by repeat (first | exact hb0 | apply below_alloc | apply pw_below_drewN | apply below_drew1)⟩
      have hok := HOK.out
      simp [hok]
    · have HOK := Lib.hid hok
      clear hok
      go_enter Try.func39, Try.ntmps39
      go_wp2_with fail
      refine (lebGroups_calls A0 c0 l0 a1 _ (Kd.C_alloc HR0.out _) hc0).mono ?_
      rintro e w' ⟨hg, rfl⟩
      obtain ⟨ad, rfl, rfl⟩ := lebGrpOut_ok HL.out hg
      clear hg
      have hr1 := lebCut_reads (n := n) HR0.out hc0 hn hln
      go_wp2_with fail
      have hc := leb_ReadUleb_1.calls 1001 (some (ad.add a1.toNat)) (c0 - a1.toNat) (lebCut l0 a1 n) _ _ _ (Kd.C_alloc hr1 (Obj.cells #[Value.func (Fn.func 37) #[] #[]] 62)) (by rw [HLN.out]; omega) HONE.out
      rw [HLN.out] at hc
      refine hc.mono ?_
      clear hc hr1
      rintro e w' ⟨rfl, ⟨nd, rfl⟩⟩
      have hd : decide (n < 10 ∨ rd (lebCut l0 a1 n) 9 ≤ 1) = false := by simp [HOK.out]
      rw [hd]
      clear hd
      go_wp2
      go_ret3
      refine ⟨?_, by repeat (first | exact hb0 | apply below_alloc | apply pw_below_drewN | apply below_drew1)⟩
      have hok := HOK.out
      simp [hok]
def leb_ReadUleb.f (l0 : List Int) (a1 : Int) : Option (Int × Int × Int) := some (wrap64 (lebReadU l0 a1).1, (lebReadU l0 a1).2.1, (lebReadU l0 a1).2.2)
set_option maxHeartbeats 1000000 in
theorem leb_ReadUleb.calls (A0 : Option Addr) (c0 : Nat) (l0 : List Int) (a1 : Int) (r1 : Int) (r2 : Int) (r3 : Int) (w : World) (hr0 : Kd.C (Kd.int .u8) w A0 l0.length l0) (hc0 : l0.length ≤ c0) (h : leb_ReadUleb.f l0 a1 = some (r1, r2, r3)) :
    Calls Try.prog 22 #[.slice A0 l0.length c0, .int .i64 a1] w fun e w' => e = .returned (.tuple #[.int .i64 r1, .int .i64 r2, .int .i64 r3]) ∧ Below w.heap.size w w' := by
  have HR0 := Aside0.mk hr0
  have hb0 := Below.refl w.heap.size w
  unfold leb_ReadUleb.f at h
  simp only [Option.some.injEq, Prod.mk.injEq] at h
  obtain ⟨rfl, rfl, rfl⟩ := h
  have hu := Try.underlying62
  clear hr0
  obtain ⟨⟨x1, x2, x3⟩, hx⟩ : ∃ x, lebReadU l0 a1 = x := ⟨_, rfl⟩
  rw [hx]
  have HX := Lib.hid hx
  clear hx
  go_enter Try.func22, Try.ntmps22
  go_wp2_with fail
  have hc := lebReadU_calls A0 c0 l0 a1 _ (Kd.C_alloc HR0.out (Obj.cells #[Value.func (Fn.func 37) #[] #[]] 62)) hc0
  rw [HX.out] at hc
  refine hc.mono ?_
  clear hc
  rintro e w' ⟨rfl, hb1⟩
  have hb2 : Below w.heap.size w w' := below_then (below_alloc hb0 _) (by simp) hb1
  clear hb1
  replace hb2 := Aside0.mk hb2
  go_wp2
  go_ret3
  exact ⟨rfl, hb2.out⟩


end Go.Proofs.Ytjcabmopajhggaa.G
