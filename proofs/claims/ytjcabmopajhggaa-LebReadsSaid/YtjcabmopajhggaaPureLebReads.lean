/- The plain law of LebReads: the program reads numbers in groups, and texts, as the reference does, from any place of any bytes. -/
import Derived.Test.YtjcabmopajhggaaStmtLebReads
import Derived.Test.YtjcabmopajhggaaLebRead
import Derived.Test.YtjcabmopajhggaaKnows
namespace Go.Proofs.Ytjcabmopajhggaa.Pure
set_option linter.unusedVariables false
set_option linter.unusedSimpArgs false
open Go.RowKit Go.Proofs.Ytjcabmopajhggaa.G Go.Proofs.Ytjcabmopajhggaa.Stmt Go.Proofs.YtjcabmopajhggaaW.PrintWords Go.Proofs.YtjcabmopajhggaaW.PrintLast Go.Proofs.YtjcabmopajhggaaW.PrintMore Go.Proofs.Ytjcabmopajhggaa.Bit Go.Proofs.Ytjcabmopajhggaa.Leb

/-- how many bytes the reference counts -/
def refN : Nat ⊕ Int → Int
  | .inl n => n
  | .inr e => if e = 21 then 11 else 0
theorem rgroups_l0 (l : List Int) (a : Nat) (hm : l.length ≤ 140737488351232) (d : Nat) : ∀ (k n : Nat), n ≤ 10 → 10 - n = d → 2 * d + 2 < k → a + n ≤ l.length →
    gangwayref01_groups.l0 k l (a : Int) ((a + n : Nat) : Int) = some (refN (lebGrp (l.drop (a + n)) n)) := by
  induction d with
  | zero =>
    intro k n hn hd hk hl
    obtain ⟨k, rfl⟩ : ∃ m, k = m + 2 := ⟨k - 2, by omega⟩
    obtain rfl : n = 10 := by omega
    simp only [gangwayref01_groups.l0]
    rw [wrap64_id (by omega) (by omega)]
    by_cases c : a + 10 < l.length
    · rw [if_pos (by omega), decide_eq_true (by omega), lebGrp_drop l (a + 10) c, if_pos rfl]
      simp only [gangwayref01_groups.j2, if_true]
      rw [if_pos (by omega), if_pos (by omega), wrap64_id (n := ((a + 10 : Nat) : Int) - a) (by omega) (by omega)]
      by_cases c2 : rd l ((a + 10 : Nat) : Int) < 128
      · rw [if_pos c2, wrap64_id (by omega) (by omega)]
        simp [refN]
        omega
      · rw [if_neg c2, if_pos (by omega), wrap64_id (by omega) (by omega)]
        simp [refN]
        omega
    · rw [if_neg (by omega)]
      simp only [gangwayref01_groups.j2]
      rw [List.drop_of_length_le (by omega)]
      simp [lebGrp, refN]
  | succ d ih =>
    intro k n hn hd hk hl
    obtain ⟨k, rfl⟩ : ∃ m, k = m + 2 := ⟨k - 2, by omega⟩
    simp only [gangwayref01_groups.l0]
    rw [wrap64_id (by omega) (by omega)]
    by_cases c : a + n < l.length
    · rw [if_pos (by omega), decide_eq_true (by omega), lebGrp_drop l (a + n) c, if_neg (by omega)]
      simp only [gangwayref01_groups.j2, if_true]
      rw [if_pos (by omega), if_pos (by omega), wrap64_id (n := ((a + n : Nat) : Int) - a) (by omega) (by omega)]
      by_cases c2 : rd l ((a + n : Nat) : Int) < 128
      · rw [if_pos c2, if_pos c2, wrap64_id (by omega) (by omega)]
        simp [refN]
        omega
      · rw [if_neg c2, if_neg c2, if_neg (by omega), wrap64_id (by omega) (by omega), show ((a + n : Nat) : Int) + 1 = ((a + (n + 1) : Nat) : Int) from by omega, ih k (n + 1) (by omega) (by omega) (by omega) (by omega)]
        rfl
    · rw [if_neg (by omega)]
      simp only [gangwayref01_groups.j2]
      rw [List.drop_of_length_le (by omega)]
      simp [lebGrp, refN]
theorem rgroups_f (l : List Int) (a : Int) (hm : l.length ≤ 140737488351232) (k : Nat) (hk : 30 ≤ k) : gangwayref01_groups.f k l a = some (refN (lebAt l a)) := by
  obtain ⟨k, rfl⟩ : ∃ m, k = m + 1 := ⟨k - 1, by omega⟩
  unfold gangwayref01_groups.f lebAt
  by_cases c1 : a < 0
  · rw [if_pos c1, if_pos (.inl c1)]
    simp [gangwayref01_groups.j0, refN]
  · rw [if_neg c1]
    by_cases c2 : a > l.length
    · rw [decide_eq_true c2, if_pos (.inr (by omega))]
      simp [gangwayref01_groups.j0, refN]
    · rw [decide_eq_false c2]
      simp only [gangwayref01_groups.j0, Bool.false_eq_true, if_false]
      obtain ⟨m, rfl⟩ := Int.eq_ofNat_of_zero_le (show 0 ≤ a by omega)
      have := rgroups_l0 l m hm 10 k 0 (by omega) (by omega) (by omega) (by omega)
      rw [Nat.add_zero] at this
      rw [this]
      by_cases c3 : m < l.length
      · rw [if_neg (by omega), Int.toNat_natCast]
      · rw [if_pos (.inr (by omega)), List.drop_of_length_le (by omega)]
        rfl
theorem rraw_l0 (l : List Int) (a n : Nat) (hm : l.length ≤ 140737488351232) (hl : a + n ≤ l.length) (hn : n ≤ 10) (d : Nat) : ∀ (k i : Nat) (u : Int), i + d = n → d < k →
    gangwayref01_raw.l0 k l (a : Int) (n : Int) u (i : Int) = some (lebJn ((lebCut l a n).drop i) i u) := by
  have hlen := lebCut_length (l0 := l) (a1 := (a : Int)) (n := n) (by rw [Int.toNat_natCast]; exact hl)
  induction d with
  | zero =>
    intro k i u hi hk
    obtain ⟨k, rfl⟩ : ∃ m, k = m + 1 := ⟨k - 1, by omega⟩
    simp only [gangwayref01_raw.l0]
    rw [if_neg (by omega), List.drop_of_length_le (by omega)]
    rfl
  | succ d ih =>
    intro k i u hi hk
    obtain ⟨k, rfl⟩ : ∃ m, k = m + 1 := ⟨k - 1, by omega⟩
    have hlt : i < (lebCut l a n).length := by omega
    have hget : (lebCut l a n)[i] = l[a + i]'(by omega) := by
      have h2 : lebCut l (a : Int) n = (l.drop a).take n := lebCut_drop l a n
      simp [h2]
    have hrd : rd l ((a : Int) + i) = l[a + i]'(by omega) := by
      simp [rd, List.getD, show ((a : Int) + (i : Int)).toNat = a + i from by omega, show a + i < l.length from by omega]
    simp only [gangwayref01_raw.l0]
    rw [if_pos (by omega), wrap64_id (n := (a : Int) + i) (by omega) (by omega), if_pos (by omega), if_pos (by omega), wrap64_id (n := 7 * (i : Int)) (by omega) (by omega), wrap_u64 (7 * (i : Int)), Int.emod_eq_of_lt (by omega) (by omega), if_pos (by omega), wrap64_id (n := (i : Int) + 1) (by omega) (by omega), show (i : Int) + 1 = ((i + 1 : Nat) : Int) from by omega, ih k (i + 1) _ (by omega) (by omega), List.drop_eq_getElem_cons hlt, hget, hrd]
    rfl
theorem rraw_f (l : List Int) (a n : Nat) (hm : l.length ≤ 140737488351232) (hl : a + n ≤ l.length) (hn : n ≤ 10) (k : Nat) (hk : 20 ≤ k) : gangwayref01_raw.f k l (a : Int) (n : Int) = some (lebJn (lebCut l a n) 0 0) := by
  unfold gangwayref01_raw.f
  have := rraw_l0 l a n hm hl hn n k 0 0 (by omega) (by omega)
  simpa using this
theorem cut_rd (l : List Int) (a n i : Nat) (hl : a + n ≤ l.length) (hi : i < n) : rd (lebCut l (a : Int) n) (i : Int) = rd l ((a + i : Nat) : Int) := by
  rw [lebCut_drop]
  unfold rd
  rw [Int.toNat_natCast, Int.toNat_natCast, List.getD_eq_getElem?_getD, List.getD_eq_getElem?_getD, List.getElem?_take, if_pos hi, List.getElem?_drop]
theorem lebAt_refN {l : List Int} {a : Int} : (∃ n, lebAt l a = .inl n) ∨ lebAt l a = .inr 20 ∨ lebAt l a = .inr 21 := by
  cases h : lebAt l a with
  | inl n => exact .inl ⟨n, rfl⟩
  | inr e =>
    rcases lebAt_err h with rfl | rfl
    · exact .inr (.inl rfl)
    · exact .inr (.inr rfl)
theorem rreadU_f (l : List Int) (a : Int) (hm : l.length ≤ 140737488351232) (hb : ∀ b ∈ l, 0 ≤ b ∧ b ≤ 255) : gangwayref01_ReadUleb.f 40 l a = leb_ReadUleb.f l a := by
  unfold gangwayref01_ReadUleb.f leb_ReadUleb.f lebReadU
  rw [rgroups_f l a hm 40 (by omega), Option.bind_some]
  rcases lebAt_refN (l := l) (a := a) with ⟨n, h⟩ | h | h
  · obtain ⟨h0, hn, hn10, hln⟩ := lebAt_ok h
    obtain ⟨m, rfl⟩ := Int.eq_ofNat_of_zero_le h0
    rw [Int.toNat_natCast] at hln
    have hr : refN (lebAt l (m : Int)) = n := by rw [h]; rfl
    rw [hr, h]
    simp only
    rw [if_neg (show ¬ (n : Int) = 0 by omega), if_neg (show ¬ (n : Int) > 10 by omega), rraw_f l m n hm hln hn10 40 (by omega)]
    simp only [Option.bind_some]
    rw [wrap64_id (n := (m : Int) + n) (by omega) (by omega)]
    by_cases c : n < 10
    · rw [if_neg (show ¬ (n : Int) = 10 by omega), if_pos (.inl c)]
    · obtain rfl : n = 10 := by omega
      have e := cut_rd l m 10 9 hln (by omega)
      rw [if_pos (show ((10 : Nat) : Int) = 10 from rfl), wrap64_id (n := (m : Int) + 9) (by omega) (by omega), if_pos (show 0 ≤ (m : Int) + 9 by omega), if_pos (show (m : Int) + 9 < (l.length : Int) by omega)]
      rw [show ((9 : Nat) : Int) = 9 from rfl] at e
      rw [show (m : Int) + 9 = ((m + 9 : Nat) : Int) from by omega, ← e]
      by_cases c2 : rd (lebCut l (m : Int) 10) 9 > 1
      · rw [if_pos c2, if_neg (by omega), show wrap64 0 = 0 from by decide +kernel]
      · rw [if_neg c2, if_pos (.inr (by omega))]
  · rw [h]
    simp [refN]
    decide +kernel
  · rw [h]
    simp [refN]
    decide +kernel
theorem b_and64 (x : Int) (h0 : 0 ≤ x) (h1 : x < 256) : Go.bits .and .u8 x 64 = if x % 128 ≥ 64 then 64 else 0 :=
  byte_all (P := fun y => Go.bits .and .u8 y 64 = if y % 128 ≥ 64 then 64 else 0) (by decide +kernel) x h0 h1
theorem gN_last (g : List Int) (x : Int) (h0 : 0 ≤ x) (h1 : x < 128) : gN (g ++ [x]) = gN g + 128 ^ g.length * x := by
  induction g with
  | nil => simp [gN]; omega
  | cons y ys ih =>
    simp only [List.cons_append, gN, ih, List.length_cons, pow128]
    rw [Int.mul_assoc]
    generalize (128 : Int) ^ ys.length * x = z
    omega
theorem grp_last (l : List Int) : ∀ j n, lebGrp l j = .inl n → ∃ h : n - j - 1 < l.length, l[n - j - 1] < 128 := by
  induction l with
  | nil => intro j n h; simp [lebGrp] at h
  | cons x xs ih =>
    intro j n h
    have hle := lebGrp_le _ _ _ h
    simp only [lebGrp] at h
    split at h
    · cases h
    · split at h
      · cases h
        refine ⟨by simp, ?_⟩
        simpa using ‹x < 128›
      · obtain ⟨h1, h2⟩ := ih _ _ h
        have hle2 := lebGrp_le _ _ _ h
        refine ⟨by simp only [List.length_cons]; omega, ?_⟩
        have e : n - j - 1 = (n - (j + 1) - 1) + 1 := by omega
        simp only [e, List.getElem_cons_succ]
        exact h2
theorem sx_ref (l : List Int) (m n : Nat) (hb : ∀ b ∈ l, 0 ≤ b ∧ b ≤ 255) (hln : m + n ≤ l.length) (hn : 0 < n) (hn9 : n ≤ 9) (hlast : rd l ((m + n - 1 : Nat) : Int) < 128) (hm : l.length ≤ 140737488351232) :
    (if Go.bits .and .u8 (rd l ((m + n - 1 : Nat) : Int)) 64 = 0 then wrap64 (lebJn (lebCut l (m : Int) n) 0 0) else wrap64 (Go.bits .or .u64 (lebJn (lebCut l (m : Int) n) 0 0) (shl .u64 18446744073709551615 (7 * (n : Int))))) = lebSx (lebJn (lebCut l (m : Int) n) 0 0) n := by
  have hlen := lebCut_length (l0 := l) (a1 := (m : Int)) (n := n) (by rw [Int.toNat_natCast]; exact hln)
  have hbc : ∀ b ∈ lebCut l (m : Int) n, 0 ≤ b ∧ b ≤ 255 := fun b h => hb b (List.mem_of_mem_take (List.mem_of_mem_drop h))
  have hget := cut_rd l m n (n - 1) hln (by omega)
  rw [show m + (n - 1) = m + n - 1 from by omega] at hget
  rw [← hget] at hlast ⊢
  rw [lebJn_val _ hbc (by omega)]
  generalize lebCut l (m : Int) n = g at *
  obtain ⟨q, rfl⟩ : ∃ q, n = q + 1 := ⟨n - 1, by omega⟩
  rw [Nat.add_sub_cancel] at *
  have hsplit : g = g.take q ++ [rd g (q : Int)] := by
    have h1 : g.take (q + 1) = g := List.take_of_length_le (by omega)
    have h2 := List.take_succ_eq_append_getElem (l := g) (i := q) (by omega)
    rw [h1] at h2
    rw [h2]
    congr 1
    · rw [List.take_append_of_le_length (by rw [List.length_take]; omega), List.take_take]
      simp
    · simp [rd, List.getD, List.getElem_append, hlen]
  have hx0 : 0 ≤ rd g (q : Int) := by
    have : rd g (q : Int) = g[q]'(by omega) := by simp [rd, List.getD, show q < g.length from by omega]
    rw [this]
    exact (hbc _ (List.getElem_mem _)).1
  have hg : gN g = gN (g.take q) + 128 ^ q * rd g (q : Int) := by
    have := gN_last (g.take q) (rd g (q : Int)) hx0 hlast
    rw [← hsplit, List.length_take, Nat.min_eq_left (by omega)] at this
    exact this
  have hr := gN_range (g.take q)
  rw [List.length_take, Nat.min_eq_left (by omega)] at hr
  have hp := pow128_pos q
  have hp8 : (128 : Int) ^ q ≤ 72057594037927936 := by
    have := pow128_mono (show q ≤ 8 by omega)
    exact this
  have hmul0 : 0 ≤ 128 ^ q * rd g (q : Int) := Int.mul_nonneg (by omega) hx0
  have hmul1 : 128 ^ q * rd g (q : Int) ≤ 128 ^ q * 127 := Int.mul_le_mul_of_nonneg_left (by omega) (by omega)
  have hW : gN g % 18446744073709551616 = gN g := Int.emod_eq_of_lt (by omega) (by omega)
  rw [hW, b_and64 _ hx0 (by omega), Int.emod_eq_of_lt hx0 hlast]
  unfold lebSx
  have hpow : (2 : Int) ^ (7 * (q + 1) - 1) = 64 * 128 ^ q := by
    rw [show 7 * (q + 1) - 1 = 6 + 7 * q from by omega, Int.pow_add, two7]
    rfl
  have hshr : shr .u64 (gN g) (7 * ((q + 1 : Nat) : Int) - 1) = gN g / (64 * 128 ^ q) := by
    unfold shr
    rw [show (7 * ((q + 1 : Nat) : Int) - 1).toNat = 7 * (q + 1) - 1 from by omega, Nat.min_eq_left (by simp [IntKind.bits]; omega), hpow]
  rw [hshr]
  by_cases c : rd g (q : Int) ≥ 64
  · have k1 : 128 ^ q * 64 ≤ 128 ^ q * rd g (q : Int) := Int.mul_le_mul_of_nonneg_left c (by omega)
    have hd : gN g / (64 * 128 ^ q) = 1 := by
      have l1 : gN g / (64 * 128 ^ q) < 2 := Int.ediv_lt_of_lt_mul (by omega) (by omega)
      have l2 : 1 ≤ gN g / (64 * 128 ^ q) := Int.le_ediv_of_mul_le (by omega) (by omega)
      omega
    rw [if_pos c, if_neg (by decide), hd, if_pos ⟨by omega, by decide +kernel⟩]
  · have k1 : 128 ^ q * rd g (q : Int) ≤ 128 ^ q * 63 := Int.mul_le_mul_of_nonneg_left (by omega) (by omega)
    have hd : gN g / (64 * 128 ^ q) = 0 := Int.ediv_eq_zero_of_lt (by omega) (by omega)
    rw [if_neg c, if_pos rfl, hd, if_neg (fun h => absurd h.2 (by decide +kernel))]
theorem rreadS_f (l : List Int) (a : Int) (hm : l.length ≤ 140737488351232) (hb : ∀ b ∈ l, 0 ≤ b ∧ b ≤ 255) : gangwayref01_ReadSleb.f 40 l a = leb_ReadSleb.f l a := by
  unfold gangwayref01_ReadSleb.f leb_ReadSleb.f lebReadS
  rw [rgroups_f l a hm 40 (by omega), Option.bind_some]
  rcases lebAt_refN (l := l) (a := a) with ⟨n, h⟩ | h | h
  · obtain ⟨h0, hn, hn10, hln⟩ := lebAt_ok h
    obtain ⟨m, rfl⟩ := Int.eq_ofNat_of_zero_le h0
    rw [Int.toNat_natCast] at hln
    have hr : refN (lebAt l (m : Int)) = n := by rw [h]; rfl
    rw [hr, h]
    simp only
    rw [if_neg (show ¬ (n : Int) = 0 by omega), if_neg (show ¬ (n : Int) > 10 by omega)]
    by_cases c : n < 10
    · rw [if_neg (show ¬ (n : Int) = 10 by omega), if_pos (.inl c)]
      simp only [gangwayref01_ReadSleb.j0, Bool.false_eq_true, if_false]
      rw [rraw_f l m n hm hln hn10 39 (by omega)]
      simp only [Option.bind_some]
      have hlast : rd l ((m + n - 1 : Nat) : Int) < 128 := by
        have h1 : lebAt l (m : Int) = lebGrp (l.drop m) 0 := lebAt_nat (by omega)
        rw [h1] at h
        obtain ⟨k1, k2⟩ := grp_last _ _ _ h
        rw [List.getElem_drop] at k2
        simp only [rd, Int.toNat_natCast]
        rw [List.getD_eq_getElem?_getD, List.getElem?_eq_getElem (by omega)]
        simpa [show m + n - 1 = m + (n - 0 - 1) from by omega] using k2
      have e := sx_ref l m n hb hln hn (by omega) hlast hm
      rw [wrap64_id (n := (m : Int) + n) (by omega) (by omega), wrap64_id (n := (m : Int) + n - 1) (by omega) (by omega), if_pos (show (n : Int) < 10 by omega), if_pos (by omega), if_pos (by omega), show (m : Int) + n - 1 = ((m + n - 1 : Nat) : Int) from by omega, wrap64_id (n := 7 * (n : Int)) (by omega) (by omega), wrap_u64, Int.emod_eq_of_lt (by omega) (by omega), if_pos (show 0 ≤ 7 * (n : Int) by omega), ← e]
      split <;> rfl
    · obtain rfl : n = 10 := by omega
      have e := cut_rd l m 10 9 hln (by omega)
      rw [if_pos (show ((10 : Nat) : Int) = 10 from rfl), wrap64_id (n := (m : Int) + 9) (by omega) (by omega), if_pos (show 0 ≤ (m : Int) + 9 by omega), if_pos (show (m : Int) + 9 < (l.length : Int) by omega)]
      rw [show ((9 : Nat) : Int) = 9 from rfl] at e
      rw [show (m : Int) + 9 = ((m + 9 : Nat) : Int) from by omega, ← e]
      have hs : lebSx (lebJn (lebCut l (m : Int) 10) 0 0) 10 = wrap64 (lebJn (lebCut l (m : Int) 10) 0 0) := if_neg (fun h => absurd h.1 (by decide))
      have go : gangwayref01_ReadSleb.j0 40 l (m : Int) ((10 : Nat) : Int) false = some (lebSx (lebJn (lebCut l (m : Int) 10) 0 0) 10, (m : Int) + ((10 : Nat) : Int), 0) := by
        simp only [gangwayref01_ReadSleb.j0, Bool.false_eq_true, if_false]
        rw [rraw_f l m 10 hm hln (by omega) 39 (by omega)]
        simp only [Option.bind_some]
        rw [if_neg (show ¬ ((10 : Nat) : Int) < 10 by decide), hs, wrap64_id (n := (m : Int) + ((10 : Nat) : Int)) (by omega) (by omega)]
      by_cases c0 : rd (lebCut l (m : Int) 10) 9 = 0
      · rw [if_pos c0, if_pos (.inr (.inl c0)), go]
      · rw [if_neg c0]
        by_cases c1 : rd (lebCut l (m : Int) 10) 9 = 127
        · rw [if_pos (.inr (.inr c1)), show (rd (lebCut l (m : Int) 10) 9 != 127) = false from by simp [c1], go]
        · rw [if_neg (by omega), show (rd (lebCut l (m : Int) 10) 9 != 127) = true from by simp [c1]]
          simp [gangwayref01_ReadSleb.j0]
  · rw [h]
    simp [refN]
  · rw [h]
    simp [refN, gangwayref01_ReadSleb.j0]
/-- the first byte 0, counted from here -/
def zeroAt : List Int → Option Nat
  | [] => none
  | x :: xs => if x = 0 then some 0 else (zeroAt xs).map (· + 1)
theorem index_zero (l : List Int) (hb : ∀ b ∈ l, 0 ≤ b ∧ b ≤ 255) : Lib.indexByte (Lib.bytesOf l) (0 : Int).toNat.toUInt8 = match zeroAt l with | some n => (n : Int) | none => -1 := by
  induction l with
  | nil => rfl
  | cons x xs ih =>
    have hx := hb x (by simp)
    have := ih (fun b h => hb b (by simp [h]))
    simp only [Lib.bytesOf, List.map_cons, Lib.indexByte, zeroAt] at this ⊢
    by_cases c : x = 0
    · subst c
      simp
    · have hne : (UInt8.ofNat x.toNat == (0 : Int).toNat.toUInt8) = false := by
        rw [beq_eq_false_iff_ne]
        intro e
        have h2 := congrArg UInt8.toNat e
        simp at h2
        omega
      rw [hne, this, if_neg c]
      cases zeroAt xs with
      | none => rfl
      | some n =>
        have h3 : ((n : Int) == -1) = false := by rw [beq_eq_false_iff_ne]; omega
        simp [h3]
theorem zeroAt_lt (l : List Int) : ∀ n, zeroAt l = some n → n < l.length := by
  induction l with
  | nil => intro n h; simp [zeroAt] at h
  | cons x xs ih =>
    intro n h
    simp only [zeroAt] at h
    split at h
    · cases h; simp
    · cases hz : zeroAt xs with
      | none => rw [hz] at h; simp at h
      | some m =>
        rw [hz] at h
        simp at h
        have := ih m hz
        simp
        omega
theorem rtext_l0 (l : List Int) (a : Nat) (hm : l.length ≤ 140737488351232) (d : Nat) : ∀ (k i : Nat), a ≤ i → i ≤ l.length → l.length - i = d → d < k →
    gangwayref01_Text.l0 k l (a : Int) (i : Int) = some (match zeroAt (l.drop i) with | some n => (strOfNums ((l.take (i + n)).drop a), ((i + n + 1 : Nat) : Int), 0) | none => ((⟨#[]⟩ : ByteArray), 0, 20)) := by
  induction d with
  | zero =>
    intro k i hai hil hd hk
    obtain ⟨k, rfl⟩ : ∃ m, k = m + 1 := ⟨k - 1, by omega⟩
    simp only [gangwayref01_Text.l0]
    rw [if_neg (by omega), List.drop_of_length_le (by omega)]
    rfl
  | succ d ih =>
    intro k i hai hil hd hk
    obtain ⟨k, rfl⟩ : ∃ m, k = m + 1 := ⟨k - 1, by omega⟩
    have hlt : i < l.length := by omega
    have hrd : rd l (i : Int) = l[i] := by simp [rd, List.getD, hlt]
    simp only [gangwayref01_Text.l0]
    rw [if_pos (by omega), if_pos (by omega), hrd, List.drop_eq_getElem_cons hlt]
    simp only [zeroAt]
    by_cases c : l[i] = 0
    · rw [if_pos c, if_pos c, if_pos (by omega), if_pos (by omega), if_pos (by omega), wrap64_id (by omega) (by omega)]
      simp
    · rw [if_neg c, if_neg c, wrap64_id (by omega) (by omega), show (i : Int) + 1 = ((i + 1 : Nat) : Int) from by omega, ih k (i + 1) (by omega) (by omega) (by omega) (by omega)]
      cases zeroAt (l.drop (i + 1)) with
      | none => rfl
      | some n =>
        simp only [Option.map_some]
        rw [show i + (n + 1) = i + 1 + n from by omega]
theorem text_same (l : List Int) (a : Int) (hm : l.length ≤ 140737488351232) (hb : ∀ b ∈ l, 0 ≤ b ∧ b ≤ 255) (k : Nat) (hk : l.length + 2 < k) : ∃ r, leb_Text.f k l a = some r ∧ gangwayref01_Text.f k l a = some r := by
  obtain ⟨k, rfl⟩ : ∃ m, k = m + 1 := ⟨k - 1, by omega⟩
  unfold leb_Text.f gangwayref01_Text.f
  by_cases c1 : a < 0
  · rw [if_pos c1, if_pos c1]
    exact ⟨(⟨#[]⟩, 0, 20), by simp only [leb_Text.j0, if_true], by simp only [gangwayref01_Text.j0, if_true]⟩
  · rw [if_neg c1, if_neg c1]
    by_cases c2 : a > l.length
    · rw [decide_eq_true c2]
      exact ⟨(⟨#[]⟩, 0, 20), by simp only [leb_Text.j0, if_true], by simp only [gangwayref01_Text.j0, if_true]⟩
    · rw [decide_eq_false c2]
      simp only [leb_Text.j0, gangwayref01_Text.j0, Bool.false_eq_true, if_false]
      obtain ⟨m, rfl⟩ := Int.eq_ofNat_of_zero_le (show 0 ≤ a by omega)
      rw [rtext_l0 l m hm (l.length - m) k m (by omega) (by omega) (by omega) (by omega), if_pos (by omega), if_pos (by omega)]
      refine ⟨_, ?_, rfl⟩
      unfold bytes_IndexByte.f
      rw [Int.toNat_natCast, index_zero _ (fun b h => hb b (List.mem_of_mem_drop h)), Option.bind_some]
      cases hz : zeroAt (l.drop m) with
      | none => rfl
      | some n =>
        have hlt := zeroAt_lt _ _ hz
        rw [List.length_drop] at hlt
        simp only
        rw [if_neg (by omega), wrap64_id (n := (m : Int) + n) (by omega) (by omega), if_pos (by omega), if_pos (by omega), wrap64_id (n := (m : Int) + n + 1) (by omega) (by omega)]
        simp only [Option.some.injEq, Prod.mk.injEq, and_true]
        refine ⟨?_, by omega⟩
        rw [show ((m : Int) + (n : Int)).toNat = m + n from by omega]
theorem LebReads : Stmt.LebReads := by
  intro l0 a1 hl ha
  have hb : ∀ b ∈ l0, 0 ≤ b ∧ b ≤ 255 := fun b hb => wf_u8 (hl.2.2 b hb)
  have hm : l0.length ≤ 140737488351232 := by omega
  have hU := rreadU_f l0 a1 hm hb
  have hS := rreadS_f l0 a1 hm hb
  obtain ⟨r, e1, e2⟩ := text_same l0 a1 hm hb (l0.length + 40) (by omega)
  obtain ⟨p, hp⟩ : ∃ p, leb_ReadUleb.f l0 a1 = some p := ⟨_, rfl⟩
  obtain ⟨q, hq⟩ : ∃ q, leb_ReadSleb.f l0 a1 = some q := ⟨_, rfl⟩
  rw [hp] at hU
  rw [hq] at hS
  have hU' := at_rounds (g := fun k => gangwayref01_ReadUleb.f k l0 a1) (fun k => gangwayref01_ReadUleb.mono _ _ k) (show 40 ≤ l0.length + 40 by omega) hU
  have hS' := at_rounds (g := fun k => gangwayref01_ReadSleb.f k l0 a1) (fun k => gangwayref01_ReadSleb.mono _ _ k) (show 40 ≤ l0.length + 40 by omega) hS
  refine ⟨l0.length + 40, ?_⟩
  unfold gangwaylaw01_LebReads.f
  rw [hp, hq, e1, e2, hU', hS', knows_k _ (by omega)]
  simp only [Option.bind_some]
  rw [if_pos ⟨trivial, trivial, trivial, trivial, by omega⟩]
end Go.Proofs.Ytjcabmopajhggaa.Pure
