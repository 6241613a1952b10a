/- cfa.Read: what it answers to bytes that are a program. -/
import Derived.Test.YtngddlihppomhaaCfaReadOp2
import Derived.Test.YtngddlihppomhaaGfM
namespace Go.Proofs.Ytngddlihppomhaa.CfaRd
set_option linter.unusedVariables false
set_option linter.unusedSimpArgs false
open Go.RowKit Go.Proofs.Ytngddlihppomhaa.G Go.Proofs.YtngddlihppomhaaW.PrintWords Go.Proofs.YtngddlihppomhaaW.PrintLast Go.Proofs.YtngddlihppomhaaW.PrintMore
open Go.Proofs.Ytngddlihppomhaa.Cfa
def uR (l : List Int) (at_ : Int) : Option (Int × Int) := match leb_ReadUleb.f l at_ with
  | some (x, en, er) => if er = 0 then some (x, en) else none
  | none => none
def sR (l : List Int) (at_ : Int) : Option (Int × Int) := match leb_ReadSleb.f l at_ with
  | some (x, en, er) => if er = 0 then some (x, en) else none
  | none => none
def nR (l : List Int) (at_ s : Int) : Option Int := if 0 ≤ at_ + s ∧ at_ + s ≤ 2097152 then (match leb_Get.f 12 l at_ s false with
  | some (x, er) => if er = 0 then some x else none
  | none => none) else none
theorem uR_eq {l : List Int} {at_ x en : Int} (h : uR l at_ = some (x, en)) : leb_ReadUleb.f l at_ = some (x, en, 0) := by
  unfold uR at h
  split at h
  · split at h
    · rename_i x' en' er' he e0
      simp only [Option.some.injEq, Prod.mk.injEq] at h
      obtain ⟨rfl, rfl⟩ := h
      rw [he, e0]
    · cases h
  · cases h
theorem sR_eq {l : List Int} {at_ x en : Int} (h : sR l at_ = some (x, en)) : leb_ReadSleb.f l at_ = some (x, en, 0) := by
  unfold sR at h
  split at h
  · split at h
    · rename_i x' en' er' he e0
      simp only [Option.some.injEq, Prod.mk.injEq] at h
      obtain ⟨rfl, rfl⟩ := h
      rw [he, e0]
    · cases h
  · cases h
theorem nR_eq {l : List Int} {at_ s x : Int} (h : nR l at_ s = some x) : leb_Get.f 12 l at_ s false = some (x, 0) ∧ 0 ≤ at_ + s ∧ at_ + s ≤ 9223372036854775807 := by
  unfold nR at h
  split at h
  · rename_i hs
    refine ⟨?_, hs.1, by omega⟩
    split at h
    · split at h
      · rename_i x' er' he e0
        simp only [Option.some.injEq] at h
        obtain rfl := h
        rw [he, e0]
      · cases h
    · cases h
  · cases h
/-- Which op begins with byte b, and the place behind it (at_: the place behind the byte). -/
def opR (l : List Int) (b at_ : Int) : Option ((Int × Int × Int) × Int) :=
  if 64 ≤ b ∧ b < 128 then some ((1, 0, b - 64), at_)
  else if 128 ≤ b ∧ b < 192 then (uR l at_).bind fun p => if -1099511627776 ≤ p.1 ∧ p.1 ≤ 1099511627776 then some ((5, b - 128, -8 * p.1), p.2) else none
  else if 192 ≤ b ∧ b < 256 then some ((6, b - 192, 0), at_)
  else if b = 0 then some ((0, 0, 0), at_)
  else if b = 2 then (nR l at_ 1).bind fun x => some ((1, 0, x), at_ + 1)
  else if b = 3 then (nR l at_ 2).bind fun x => some ((1, 0, x), at_ + 2)
  else if b = 4 then (nR l at_ 4).bind fun x => some ((1, 0, x), at_ + 4)
  else if b = 7 then (uR l at_).bind fun p => some ((7, p.1, 0), p.2)
  else if b = 8 then (uR l at_).bind fun p => some ((8, p.1, 0), p.2)
  else if b = 10 then some ((9, 0, 0), at_)
  else if b = 11 then some ((10, 0, 0), at_)
  else if b = 12 then (uR l at_).bind fun p => (uR l p.2).bind fun q => some ((2, p.1, q.1), q.2)
  else if b = 13 then (uR l at_).bind fun p => some ((4, p.1, 0), p.2)
  else if b = 14 then (uR l at_).bind fun p => some ((3, 0, p.1), p.2)
  else if b = 17 then (uR l at_).bind fun p => (sR l p.2).bind fun q => if -1099511627776 ≤ q.1 ∧ q.1 ≤ 1099511627776 then some ((5, p.1, -8 * q.1), q.2) else none
  else none
theorem op_calls (w0 w : World) (g : Nat) (A : Option Addr) (c : Nat) (l : List Int) (hC : Kd.C (Kd.int .u8) w0 A l.length l) (hc : l.length ≤ c) (hB : Below w0.heap.size w0 w) (hg : w0.heap.size ≤ g) (b at_ : Int) (h : Rd w g A l.length c at_ false) (o : Int × Int × Int) (at2 : Int) (hr : opR l b at_ = some (o, at2)) :
    Calls Try.prog 36 #[.pointer (some ⟨g, 0, none⟩), .int .i64 b] w (OpPost w0 w g A l.length c o at2) := by
  unfold opR at hr
  by_cases hb : 64 ≤ b ∧ b < 128
  · rw [if_pos hb] at hr
    obtain ⟨rfl, rfl⟩ := Prod.mk.inj (Option.some.inj hr)
    exact op_advance w0 w g A l.length c hB hg _ h b (b - 64) (by omega) (by omega)
  rw [if_neg hb] at hr
  by_cases hb : 128 ≤ b ∧ b < 192
  · rw [if_pos hb] at hr
    obtain ⟨⟨x, en⟩, hu, hr⟩ := Option.bind_eq_some_iff.1 hr
    split at hr
    · rename_i hx
      obtain ⟨rfl, rfl⟩ := Prod.mk.inj (Option.some.inj hr)
      exact op_offset w0 w g A c l hC hc hB hg at_ h b (b - 128) (by omega) (by omega) x en (uR_eq hu) hx
    · cases hr
  rw [if_neg hb] at hr
  by_cases hb : 192 ≤ b ∧ b < 256
  · rw [if_pos hb] at hr
    obtain ⟨rfl, rfl⟩ := Prod.mk.inj (Option.some.inj hr)
    exact op_restore w0 w g A l.length c hB hg _ h b (b - 192) (by omega) (by omega)
  rw [if_neg hb] at hr
  by_cases hb : b = 0
  · rw [if_pos hb] at hr
    obtain ⟨rfl, rfl⟩ := Prod.mk.inj (Option.some.inj hr)
    subst hb
    exact op_nop w0 w g A l.length c hB hg _ h
  rw [if_neg hb] at hr
  by_cases hb : b = 2
  · rw [if_pos hb] at hr
    obtain ⟨x, hu, hr⟩ := Option.bind_eq_some_iff.1 hr
    obtain ⟨rfl, rfl⟩ := Prod.mk.inj (Option.some.inj hr)
    subst hb
    exact op_number1 w0 w g A c l hC hc hB hg at_ h (nR_eq hu).2 12 x (nR_eq hu).1
  rw [if_neg hb] at hr
  by_cases hb : b = 3
  · rw [if_pos hb] at hr
    obtain ⟨x, hu, hr⟩ := Option.bind_eq_some_iff.1 hr
    obtain ⟨rfl, rfl⟩ := Prod.mk.inj (Option.some.inj hr)
    subst hb
    exact op_number2 w0 w g A c l hC hc hB hg at_ h (nR_eq hu).2 12 x (nR_eq hu).1
  rw [if_neg hb] at hr
  by_cases hb : b = 4
  · rw [if_pos hb] at hr
    obtain ⟨x, hu, hr⟩ := Option.bind_eq_some_iff.1 hr
    obtain ⟨rfl, rfl⟩ := Prod.mk.inj (Option.some.inj hr)
    subst hb
    exact op_number4 w0 w g A c l hC hc hB hg at_ h (nR_eq hu).2 12 x (nR_eq hu).1
  rw [if_neg hb] at hr
  by_cases hb : b = 7
  · rw [if_pos hb] at hr
    obtain ⟨⟨x, en⟩, hu, hr⟩ := Option.bind_eq_some_iff.1 hr
    obtain ⟨rfl, rfl⟩ := Prod.mk.inj (Option.some.inj hr)
    subst hb
    exact op_undefined w0 w g A c l hC hc hB hg at_ h x en (uR_eq hu)
  rw [if_neg hb] at hr
  by_cases hb : b = 8
  · rw [if_pos hb] at hr
    obtain ⟨⟨x, en⟩, hu, hr⟩ := Option.bind_eq_some_iff.1 hr
    obtain ⟨rfl, rfl⟩ := Prod.mk.inj (Option.some.inj hr)
    subst hb
    exact op_sameValue w0 w g A c l hC hc hB hg at_ h x en (uR_eq hu)
  rw [if_neg hb] at hr
  by_cases hb : b = 10
  · rw [if_pos hb] at hr
    obtain ⟨rfl, rfl⟩ := Prod.mk.inj (Option.some.inj hr)
    subst hb
    exact op_remember w0 w g A l.length c hB hg _ h
  rw [if_neg hb] at hr
  by_cases hb : b = 11
  · rw [if_pos hb] at hr
    obtain ⟨rfl, rfl⟩ := Prod.mk.inj (Option.some.inj hr)
    subst hb
    exact op_recall w0 w g A l.length c hB hg _ h
  rw [if_neg hb] at hr
  by_cases hb : b = 12
  · rw [if_pos hb] at hr
    obtain ⟨⟨x, en⟩, hu, hr⟩ := Option.bind_eq_some_iff.1 hr
    obtain ⟨⟨y, en2⟩, hu2, hr⟩ := Option.bind_eq_some_iff.1 hr
    obtain ⟨rfl, rfl⟩ := Prod.mk.inj (Option.some.inj hr)
    subst hb
    exact op_defCfa w0 w g A c l hC hc hB hg at_ h x en y en2 (uR_eq hu) (uR_eq hu2)
  rw [if_neg hb] at hr
  by_cases hb : b = 13
  · rw [if_pos hb] at hr
    obtain ⟨⟨x, en⟩, hu, hr⟩ := Option.bind_eq_some_iff.1 hr
    obtain ⟨rfl, rfl⟩ := Prod.mk.inj (Option.some.inj hr)
    subst hb
    exact op_defRegister w0 w g A c l hC hc hB hg at_ h x en (uR_eq hu)
  rw [if_neg hb] at hr
  by_cases hb : b = 14
  · rw [if_pos hb] at hr
    obtain ⟨⟨x, en⟩, hu, hr⟩ := Option.bind_eq_some_iff.1 hr
    obtain ⟨rfl, rfl⟩ := Prod.mk.inj (Option.some.inj hr)
    subst hb
    exact op_defOffset w0 w g A c l hC hc hB hg at_ h x en (uR_eq hu)
  rw [if_neg hb] at hr
  by_cases hb : b = 17
  · rw [if_pos hb] at hr
    obtain ⟨⟨x, en⟩, hu, hr⟩ := Option.bind_eq_some_iff.1 hr
    obtain ⟨⟨y, en2⟩, hu2, hr⟩ := Option.bind_eq_some_iff.1 hr
    split at hr
    · rename_i hx
      obtain ⟨rfl, rfl⟩ := Prod.mk.inj (Option.some.inj hr)
      subst hb
      exact op_offset17 w0 w g A c l hC hc hB hg at_ h x en y en2 (uR_eq hu) (sR_eq hu2) hx
    · cases hr
  rw [if_neg hb] at hr
  cases hr
theorem opR_range {l : List Int} {b at_ : Int} {p : (Int × Int × Int) × Int} (h : opR l b at_ = some p) : wrap64 b = b := by
  have : 0 ≤ b ∧ b < 256 := by
    unfold opR at h
    by_cases hb : 64 ≤ b ∧ b < 128
    · omega
    rw [if_neg hb] at h
    clear hb
    by_cases hb : 128 ≤ b ∧ b < 192
    · omega
    rw [if_neg hb] at h
    clear hb
    by_cases hb : 192 ≤ b ∧ b < 256
    · omega
    rw [if_neg hb] at h
    clear hb
    by_cases hb : b = 0
    · omega
    rw [if_neg hb] at h
    clear hb
    by_cases hb : b = 2
    · omega
    rw [if_neg hb] at h
    clear hb
    by_cases hb : b = 3
    · omega
    rw [if_neg hb] at h
    clear hb
    by_cases hb : b = 4
    · omega
    rw [if_neg hb] at h
    clear hb
    by_cases hb : b = 7
    · omega
    rw [if_neg hb] at h
    clear hb
    by_cases hb : b = 8
    · omega
    rw [if_neg hb] at h
    clear hb
    by_cases hb : b = 10
    · omega
    rw [if_neg hb] at h
    clear hb
    by_cases hb : b = 11
    · omega
    rw [if_neg hb] at h
    clear hb
    by_cases hb : b = 12
    · omega
    rw [if_neg hb] at h
    clear hb
    by_cases hb : b = 13
    · omega
    rw [if_neg hb] at h
    clear hb
    by_cases hb : b = 14
    · omega
    rw [if_neg hb] at h
    clear hb
    by_cases hb : b = 17
    · omega
    rw [if_neg hb] at h
    clear hb
    cases h
  unfold wrap64; omega
def readR (l : List Int) : Nat → Int → List S40 → Option (List S40)
  | 0, _, _ => none
  | k + 1, at_, acc => if at_ < (l.length : Int) then (if 0 ≤ at_ then (opR l (rd l at_) (at_ + 1)).bind fun p => if mayF p.1.1 p.1.2.1 p.1.2.2 = true ∧ acc.length < 4000 then readR l k p.2 (acc ++ [⟨p.1.1, p.1.2.1, p.1.2.2⟩]) else none else none) else some acc
def readF (l : List Int) : Option (List S40 × Int) := if l.length ≤ 1048576 then (readR l (l.length + 1) 0 []).map fun r => (r, 0) else none
set_option maxRecDepth 100000 in
theorem read_calls (A0 : Option Addr) (c0 : Nat) (l0 : List Int) (r1 : List S40) (r2 : Int) (w : World) (hr0 : Kd.C (Kd.int .u8) w A0 l0.length l0) (hc0 : l0.length ≤ c0) (h : readF l0 = some (r1, r2)) :
    Calls Try.prog 22 #[.slice A0 l0.length c0] w fun e w' => ∃ v0_ : Value, e = .returned (.tuple #[v0_, .int .i64 r2]) ∧ Kd.R k40 40 w' w.heap.size (fun _ => True) v0_ r1 ∧ Below w.heap.size w w' := by
  unfold readF at h
  split at h
  case isFalse => cases h
  rename_i hlen
  obtain ⟨r, h1, h2⟩ := Option.map_eq_some_iff.1 h
  clear h
  have h := h1
  clear h1
  obtain ⟨rfl, rfl⟩ := Prod.mk.inj h2
  clear h2
  have hu := Try.underlying40
  have HR0 := Aside0.mk hr0
  have HC0 := Aside0.mk hc0
  have HH := Aside0.mk h
  have HL := Aside0.mk hlen
  have f0 : decide ((l0.length : Int) > 1048576) = false := decide_eq_false (by omega)
  have f0b : decide (1048576 < l0.length) = false := decide_eq_false (by omega)
  obtain ⟨K, hK⟩ : ∃ K, K = l0.length + 1 := ⟨_, rfl⟩
  rw [← hK] at HH
  clear hr0 hc0 h hlen
  go_enter Try.func22, Try.ntmps22
  go_wp2
  go_step3
  go_wp2
  go_step3
  go_wp2
  have hg0 : Rd (w.alloc (.cells #[.slice A0 l0.length c0, .int .i64 0, .bool false] 85)) w.heap.size A0 l0.length c0 0 false := blk_new w _
  have HG0 := Aside0.mk hg0
  have HB := Aside0.mk (below_alloc (Below.refl w.heap.size w) (.cells #[.slice A0 l0.length c0, .int .i64 0, .bool false] 85))
  clear hg0
  go_loopg [5, 6] K (fun kq v5 v6 w' => ∃ (at_ : Int) (acc : List S40), v6 = .bool false ∧ Aside0 (readR l0 kq at_ acc = some r) ∧ Aside0 (Kd.R k40 40 w' w.heap.size (fun k => k ≠ w.heap.size) v5 acc) ∧ Aside0 (Rd w' w.heap.size A0 l0.length c0 at_ false) ∧ Aside0 (Below w.heap.size w w'))
  case atStart => exact ⟨0, [], rfl, HH, ⟨Kd.R_nil _ _ _ _ _⟩, HG0, HB⟩
  case round =>
    clear HB HG0 HH
    obtain ⟨at_, acc, rfl, HH, HO, HD, HB⟩ := hrel
    cases gk with
    | zero => exact absurd HH.out (by simp [readR])
    | succ k1 =>
      have H := HH.out
      clear HH
      rw [readR] at H
      have q1 : wr.cell? ⟨w.heap.size, 1, none⟩ = some (.int .i64 at_) := (blk_cell HD.out 1).trans rfl
      have q3 := blk_frozen HD.out 1
      by_cases c1 : at_ < (l0.length : Int)
      · rw [if_pos c1] at H
        by_cases c2 : 0 ≤ at_
        · rw [if_pos c2] at H
          obtain ⟨⟨o, at2⟩, hop, H⟩ := Option.bind_eq_some_iff.1 H
          have H2 : (if mayF o.1 o.2.1 o.2.2 = true ∧ acc.length < 4000 then readR l0 k1 at2 (acc ++ [⟨o.1, o.2.1, o.2.2⟩]) else none) = some r := H
          clear H
          by_cases c3 : mayF o.1 o.2.1 o.2.2 = true ∧ acc.length < 4000
          · rw [if_pos c3] at H2
            have HOP := Aside0.mk hop
            have HN := Aside0.mk H2
            have HM := Aside0.mk c3.1
            have HAL := Aside0.mk c3.2
            have hll := HL.out
            have hw : wrap64 (at_ + 1) = at_ + 1 := by unfold wrap64; omega
            have hwi : IntKind.i64.wrap (at_ + 1) = at_ + 1 := by rw [IntKind.wrap_i64]; omega
            obtain ⟨ad, rfl, hx⟩ := Kd.at_int (Kd.C_below HR0.out HB.out) at_ c2 c1
            have f1 : decide (at_ < (l0.length : Int)) = true := decide_eq_true c1
            have f2 : decide (0 ≤ at_) = true := decide_eq_true c2
            clear H2 c3 hop hll
            replace c1 := eq_true c1
            replace c2 := eq_true c2
            generalize rd l0 at_ = b at *
            obtain ⟨o0, o1, o2⟩ := o
            have hwb := opR_range HOP.out
            clear H
            go_wp2_with fail
            refine (op_calls w _ w.heap.size (some ad) c0 l0 HR0.out HC0.out (HB.out.setCell (Nat.le_refl _) _) (Nat.le_refl _) b (at_ + 1) (blk_put HD.out 1 _ rfl) (o0, o1, o2) at2 HOP.out).mono ?_
            rintro e w2 ⟨rfl, hb2, hr2, hg2⟩
            have HB2 := Aside0.mk hb2
            have HD2 := Aside0.mk hr2
            have HO2 := Aside0.mk (Kd.R_grown (Kd.R_far HO.out (p := ⟨w.heap.size, 1, none⟩) (fun k hk => hk) (.int .i64 (at_ + 1))) hg2 (fun k hk e => hk (Option.some.inj e)))
            have hgl : w.heap.size < w2.heap.size := blk_lt hr2
            have hne : w2.heap.size ≠ w.heap.size := Nat.ne_of_gt hgl
            have q2 : w2.cell? ⟨w.heap.size, 2, none⟩ = some (.bool false) := (blk_cell hr2 2).trans rfl
            clear hb2 hr2 hg2 HB HO HD q1 q3 hx HOP hw hwi hwb
            go_wp2_with fail
            refine (cfa_Op_may.calls o0 o1 o2 true _ (by rw [cfa_Op_may.f, HM.out])).mono ?_
            rintro e w3 ⟨rfl, hb3⟩
            have HB3 := Aside0.mk (below_step (below_alloc HB2.out _) hb3)
            have HD3 := Aside0.mk (show Rd w3 w.heap.size (some ad) l0.length c0 at2 false from blk_below (blk_alloc HD2.out _) hb3)
            have HO3 := Aside0.mk (Kd.R_below (Kd.R_alloc HO2.out _) hb3)
            have hbk : w3.heap[w2.heap.size]? = some (.cells #[.int .i64 o0, .int .i64 o1, .int .i64 o2] 40 (0, 0)) := blk_below (blk_new w2 _) hb3
            have e0 : w3.cell? ⟨w2.heap.size, 0, none⟩ = some (.int .i64 o0) := (blk_cell hbk 0).trans rfl
            have e1 : w3.cell? ⟨w2.heap.size, 1, none⟩ = some (.int .i64 o1) := (blk_cell hbk 1).trans rfl
            have e2 : w3.cell? ⟨w2.heap.size, 2, none⟩ = some (.int .i64 o2) := (blk_cell hbk 2).trans rfl
            clear hb3 hbk HB2 HD2 HO2 hgl hne q2
            have hgl : w.heap.size < w3.heap.size := blk_lt HD3.out
            have HGL := Aside0.mk hgl
            have hle : w.heap.size ≤ w3.heap.size := Nat.le_of_lt hgl
            have HLE := Aside0.mk hle
            have hal : (acc.length + 1) * 24 ≤ 140737488355328 := by have := HAL.out; omega
            have HAL2 := Aside0.mk hal
            have hlen : (acc ++ [(⟨o0, o1, o2⟩ : S40)]).length = acc.length + 1 := by simp
            have h4 : ((acc.length : Int) + 1 ≤ 4000) = True := eq_true (by have := HAL.out; omega)
            have h4b : decide ((acc.length : Int) + 1 > 4000) = false := decide_eq_false (by have := HAL.out; omega)
            have h4c : decide (4000 < (acc.length : Int) + 1) = false := h4b
            clear hgl hle hal
            go_wp2_with ((with_reducible refine gate_dst (N := 55) rfl ?_); refine Kd.R_append k40 (w0 := w) w.heap.size (by rfl) (.tmp 52) (.tmp 54) 27 40 (.agg #[(.int .i64 0), (.int .i64 0), (.int .i64 0)]) 24 rfl Try.underlying27 info40 rfl (by decide) (by decide) u5 acc (⟨o0, o1, o2⟩ : S40) [.int .i64 o0, .int .i64 o1, .int .i64 o2] (fun k => k ≠ w.heap.size) (fun _ => False) rfl rfl (k40_mkM _ _ _ (⟨o0, o1, o2⟩ : S40)) (fun _ hk => hk.elim) (fun k hk e => absurd HGL.out (by rw [e] at hk; exact Nat.not_lt.2 hk)) HO3.out HB3.out HLE.out HAL2.out ?_; intro v1 w4 ho hb hg hat; have HB4 := Aside0.mk hb; have HD4 := Aside0.mk (show Rd w4 w.heap.size (some ad) l0.length c0 at2 false from blk_grown HD3.out hg (fun e => (HO3.out.1 _ e.symm) rfl)); obtain ⟨A1, cp1, rfl⟩ := Kd.R_slice ho; rw [hlen] at ho; have HO4 := Aside0.mk ho; rw [hlen]; clear ho hb hg hat HO3 HB3 HD3)
            go_roundg k1
            case measure => omega
            case rel => exact ⟨at2, acc ++ [⟨o0, o1, o2⟩], rfl, HN, HO4, HD4, HB4⟩
          · rw [if_neg c3] at H2
            cases H2
        · rw [if_neg c2] at H
          cases H
      · rw [if_neg c1] at H
        obtain rfl := Option.some.inj H
        have f1 : decide (at_ < (l0.length : Int)) = false := decide_eq_false c1
        have q2 : wr.cell? ⟨w.heap.size, 2, none⟩ = some (.bool false) := (blk_cell HD.out 2).trans rfl
        clear H c1
        go_wp2
        rw [Exit.noGoto_ret]
        go_ret2
        exact ⟨_, rfl, Kd.R_mono HO.out (fun _ _ => trivial), HB.out⟩
end Go.Proofs.Ytngddlihppomhaa.CfaRd
