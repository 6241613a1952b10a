/- Lemmas and contracts, one text behind the other: what the row of this claim needs; no conditions beyond those that each theorem names. -/
import Derived.Laws.BitsLemmas
import Derived.Laws.Bits64b
import Derived.Test.YtfgfnflhdabmcaaVW1
set_option linter.unusedVariables false
set_option linter.unusedSimpArgs false
set_option maxRecDepth 100000
section
namespace Go.Proofs.Ytfgfnflhdabmcaa.Eh
open Go.RowKit Go.Proofs.Ytfgfnflhdabmcaa.G Go.Proofs.YtfgfnflhdabmcaaW.PrintWords Go.Proofs.YtfgfnflhdabmcaaW.PrintLast Go.Proofs.YtfgfnflhdabmcaaW.PrintMore Go.Proofs.Ytfgfnflhdabmcaa.EhOf
theorem atC (l : List S69) (i : Nat) (h : i < l.length) : l.drop i = rd_T69 l (i : Int) :: l.drop (i + 1) := by
 have hrd : rd_T69 l (i : Int) = l[i] := by simp [rd_T69, List.getD, h]
 rw [hrd, List.drop_eq_getElem_cons h]
theorem atF (l : List S46) (i : Nat) (h : i < l.length) : l.drop i = rd_T46 l (i : Int) :: l.drop (i + 1) := by
 have hrd : rd_T46 l (i : Int) = l[i] := by simp [rd_T46, List.getD, h]
 rw [hrd, List.drop_eq_getElem_cons h]
def okC0 (x : S69) : Bool := decide (x.f1.length ≤ 3992)
def okF0 (y : S46) : Bool := decide (y.f3.length ≤ 3992)
def okC1 (x : S69) : Bool := (ofF x.f0).2.2.2
def okF1 (n : Nat) (y : S46) : Bool := decide (0 ≤ y.f0) && decide (y.f0 < n) && !farB y.f1 && decide (0 ≤ y.f2) && decide (y.f2 ≤ 1048576)
def okC2 (x : S69) : Bool := decide ((Cfa.rowsOf (Cfa.opl x.f1) (Cfa.opl []) 0).2 = 0)
def okF2 (c : List S69) (y : S46) : Bool := decide ((Cfa.rowsOf (Cfa.opl (rd_T69 c y.f0).f1) (Cfa.opl y.f3) y.f2).2 = 0)
def checkV (c : List S69) (f : List S46) : Int :=
  if 4000 < c.length ∨ 4000 < f.length then 6
  else if c.all okC0 = false then 6 else if f.all okF0 = false then 6
  else if c.all okC1 = false then 140 else if f.all (okF1 c.length) = false then 140
  else if c.all okC2 = false then 130 else if f.all (okF2 c) = false then 130 else 0
theorem w1 {i n : Nat} (h : i < n) (hn : n ≤ 4000) : wrap64 ((i : Int) + 1) = ((i + 1 : Nat) : Int) := by unfold wrap64; omega
theorem C_blk {α : Type} (d : Kd α) {w : World} {g e : Nat} {cs : Array Value} {xs : List α} (h : w.heap[g]? = some (.cells cs e (0, 0))) (hr : Reps (d.K w) d.sz xs cs.toList) (hm : xs.length ≤ 9223372036854775807) : d.C w (some ⟨g, 0, none⟩) xs.length xs := by
 refine ⟨rfl, hm, fun _ => ⟨_, rfl, fun j p hj => ⟨_, ?_, hr.2 j p hj, fun i u hu => ?_⟩⟩⟩
 ·
  exact d.K_len (hr.2 j p hj)
 have hc := blk_cell h (j * d.sz + i)
 have hl := d.K_len (hr.2 j p hj)
 have hi : i < d.sz := by rw [← hl]; exact (List.getElem?_eq_some_iff.1 hu).1
 have e1 : (⟨g, 0, none⟩ : Addr).add (j * d.sz + i) = ⟨g, j * d.sz + i, none⟩ := by
  unfold Addr.add
  split
  ·
   rename_i h0; rw [h0]
  simp only [Nat.zero_add]
 rw [e1, hc, ← hu]
 rw [List.getElem?_take_of_lt hi, List.getElem?_drop, Array.getElem?_toList]
theorem all_bad {α : Type} {l : List α} {p : α → Bool} {x : α} (h : x ∈ l) (hp : p x = false) : l.all p = false := by
 rw [List.all_eq_false]
 exact ⟨x, h, by rw [hp]; simp⟩
theorem memC (l : List S69) (i : Nat) (h : i < l.length) : rd_T69 l (i : Int) ∈ l := List.mem_of_mem_drop (by rw [atC l i h]; exact List.mem_cons_self)
theorem memF (l : List S46) (i : Nat) (h : i < l.length) : rd_T46 l (i : Int) ∈ l := List.mem_of_mem_drop (by rw [atF l i h]; exact List.mem_cons_self)
theorem all_C {l : List S69} {p : S69 → Bool} (h : ∀ i, i < l.length → p (rd_T69 l ((i : Nat) : Int)) = true) : l.all p = true := by
 rw [List.all_eq_true]
 intro x hx
 obtain ⟨i, hi, rfl⟩ := List.getElem_of_mem hx
 have := h i hi
 have e : rd_T69 l (i : Int) = l[i] := by simp [rd_T69, List.getD, hi]
 rw [← e]
 exact this
theorem all_F {l : List S46} {p : S46 → Bool} (h : ∀ i, i < l.length → p (rd_T46 l ((i : Nat) : Int)) = true) : l.all p = true := by
 rw [List.all_eq_true]
 intro x hx
 obtain ⟨i, hi, rfl⟩ := List.getElem_of_mem hx
 have := h i hi
 have e : rd_T46 l (i : Int) = l[i] := by simp [rd_T46, List.getD, hi]
 rw [← e]
 exact this
set_option maxHeartbeats 4000000 in
theorem check_calls (A0 : Option Addr) (c0 : Nat) (c : List S69) (A1 : Option Addr) (c1 : Nat) (f : List S46) (w : World) (hr0 : Kd.C k69 w A0 c.length c) (hc0 : c.length ≤ c0) (hr1 : Kd.C k46 w A1 f.length f) (hc1 : f.length ≤ c1) :
    Calls Try.prog 12 #[.slice A0 c.length c0, .slice A1 f.length c1] w fun e w' => e = .returned (.int .i64 (checkV c f)) ∧ Below w.heap.size w w' := by
 have HC := am hr0
 have HF := am hr1
 clear hr0 hr1
 go_enter Try.func12, Try.ntmps12
 by_cases hc : 4000 < c.length
 ·
  have hd : decide ((4000 : Int) < (c.length : Int)) = true := decide_eq_true (by omega)
  go_wp2
  go_ret
  exact ⟨by unfold checkV; rw [if_pos (.inl hc)]; rfl, Below.refl _ _⟩
 have hd : decide ((4000 : Int) < (c.length : Int)) = false := decide_eq_false (by omega)
 by_cases hf : 4000 < f.length
 ·
  have hd2 : decide ((4000 : Int) < (f.length : Int)) = true := decide_eq_true (by omega)
  go_wp2
  go_ret
  exact ⟨by unfold checkV; rw [if_pos (.inr hf)]; rfl, Below.refl _ _⟩
 have hd2 : decide ((4000 : Int) < (f.length : Int)) = false := decide_eq_false (by omega)
 have HN : Aside0 (¬(4000 < c.length ∨ 4000 < f.length)) := ⟨by omega⟩
 go_wp2
 go_loopg [30] c.length (fun kq v30 wr => ∃ k : Nat, k + kq = c.length ∧ v30 = .int .i64 (k : Int) ∧ Aside0 (∀ i : Nat, i < k → okC0 (rd_T69 c (i : Int)) = true) ∧ Aside0 (Below w.heap.size w wr))
 case atStart => exact ⟨0, by omega, rfl, ⟨fun i hi => absurd hi (by omega)⟩, ⟨(Below.refl _ _)⟩⟩
 case round =>
  obtain ⟨k, hk, rfl, HK, HB0⟩ := hrel
  cases gk with
  | succ gk =>
   have hlt : decide ((k : Int) < (c.length : Int)) = true := decide_eq_true (by omega)
   obtain ⟨ad, Ae, ce, rfl, z0, z1, hce, hCe⟩ := at_T69 (Kd.C_below HC.out HB0.out) (k : Int) (by omega) (by omega)
   rw [Int.toNat_natCast] at z0 z1
   have HCE := am hCe
   have HM := am (show ∀ b : Bool, okC0 (rd_T69 c (k : Int)) = b → b = true → ∀ i : Nat, i < k + 1 → okC0 (rd_T69 c (i : Int)) = true from fun b hb ht i hi => by
     rcases Nat.lt_or_eq_of_le (Nat.le_of_lt_succ hi) with h1 | h1
     · exact HK.out i h1
     · rw [h1, hb, ht])
   have HBAD := am (show ∀ hbad : okC0 (rd_T69 c (k : Int)) = false, checkV c f = 6 from fun hbad => by
     unfold checkV
     rw [if_neg HN.out]
     exact if_pos (all_bad (memC c k (by omega)) hbad))
   clear hCe HK
   generalize rd_T69 c (k : Int) = x at z0 z1 HCE HM HBAD hce
   by_cases hb : okC0 x = true
   ·
    have hx : decide ((3992 : Int) < (x.f1.length : Int)) = false := decide_eq_false (by unfold okC0 at hb; have := of_decide_eq_true hb; omega)
    go_wp2
    go_roundg gk
    case measure => omega
    case rel => exact ⟨k + 1, by omega, by go_num, ⟨HM.out _ hb rfl⟩, ⟨below_alloc HB0.out _⟩⟩
   have hx : decide ((3992 : Int) < (x.f1.length : Int)) = true := decide_eq_true (by unfold okC0 at hb; have : ¬ x.f1.length ≤ 3992 := fun h => hb (decide_eq_true h); omega)
   go_wp2
   go_ret
   exact ⟨by rw [HBAD.out (by simpa using hb)]; rfl, below_alloc HB0.out _⟩
  | zero =>
   have hlt : decide ((k : Int) < (c.length : Int)) = false := decide_eq_false (by omega)
   have HA0 : Aside0 (c.all okC0 = true) := ⟨all_C (fun i hi => HK.out i (by omega))⟩
   have hltn0 : decide (k < c.length) = false := decide_eq_false (by omega)
   clear HK hlt
   go_wp2
   try rw [hltn0]
   go_loopg [41] f.length (fun kq v41 wr => ∃ k : Nat, k + kq = f.length ∧ v41 = .int .i64 (k : Int) ∧ Aside0 (∀ i : Nat, i < k → okF0 (rd_T46 f (i : Int)) = true) ∧ Aside0 (Below w.heap.size w wr))
   case atStart => exact ⟨0, by omega, rfl, ⟨fun i hi => absurd hi (by omega)⟩, ⟨HB0.out⟩⟩
   case round =>
    obtain ⟨k, hk, rfl, HK, HB1⟩ := hrel
    cases gk with
    | succ gk =>
     have hlt : decide ((k : Int) < (f.length : Int)) = true := decide_eq_true (by omega)
     obtain ⟨ad, Ae, ce, rfl, z0, z1, z2, z3, hce, hCe⟩ := at_T46 (Kd.C_below HF.out HB1.out) (k : Int) (by omega) (by omega)
     rw [Int.toNat_natCast] at z0 z1 z2 z3
     have HCE := am hCe
     have HM := am (show ∀ b : Bool, okF0 (rd_T46 f (k : Int)) = b → b = true → ∀ i : Nat, i < k + 1 → okF0 (rd_T46 f (i : Int)) = true from fun b hb ht i hi => by
       rcases Nat.lt_or_eq_of_le (Nat.le_of_lt_succ hi) with h1 | h1
       · exact HK.out i h1
       · rw [h1, hb, ht])
     have HBAD := am (show ∀ hbad : okF0 (rd_T46 f (k : Int)) = false, checkV c f = 6 from fun hbad => by
       unfold checkV
       rw [if_neg HN.out]
       rw [if_neg (by rw [HA0.out]; decide)]
       exact if_pos (all_bad (memF f k (by omega)) hbad))
     clear hCe HK
     generalize rd_T46 f (k : Int) = x at z0 z1 z2 z3 HCE HM HBAD hce
     by_cases hb : okF0 x = true
     ·
      have hx : decide ((3992 : Int) < (x.f3.length : Int)) = false := decide_eq_false (by unfold okF0 at hb; have := of_decide_eq_true hb; omega)
      go_wp2
      go_roundg gk
      case measure => omega
      case rel => exact ⟨k + 1, by omega, by go_num, ⟨HM.out _ hb rfl⟩, ⟨below_alloc HB1.out _⟩⟩
     have hx : decide ((3992 : Int) < (x.f3.length : Int)) = true := decide_eq_true (by unfold okF0 at hb; have : ¬ x.f3.length ≤ 3992 := fun h => hb (decide_eq_true h); omega)
     go_wp2
     go_ret
     exact ⟨by rw [HBAD.out (by simpa using hb)]; rfl, below_alloc HB1.out _⟩
    | zero =>
     have hlt : decide ((k : Int) < (f.length : Int)) = false := decide_eq_false (by omega)
     have HA1 : Aside0 (f.all okF0 = true) := ⟨all_F (fun i hi => HK.out i (by omega))⟩
     have hltn1 : decide (k < f.length) = false := decide_eq_false (by omega)
     clear HK hlt
     go_wp2
     try rw [hltn0]
     try rw [hltn1]
     go_loopg [52] c.length (fun kq v52 wr => ∃ k : Nat, k + kq = c.length ∧ v52 = .int .i64 (k : Int) ∧ Aside0 (∀ i : Nat, i < k → okC1 (rd_T69 c (i : Int)) = true) ∧ Aside0 (Below w.heap.size w wr))
     case atStart => exact ⟨0, by omega, rfl, ⟨fun i hi => absurd hi (by omega)⟩, ⟨HB1.out⟩⟩
     case round =>
      obtain ⟨k, hk, rfl, HK, HB2⟩ := hrel
      cases gk with
      | succ gk =>
       have hlt : decide ((k : Int) < (c.length : Int)) = true := decide_eq_true (by omega)
       obtain ⟨ad, Ae, ce, rfl, z0, z1, hce, hCe⟩ := at_T69 (Kd.C_below HC.out HB2.out) (k : Int) (by omega) (by omega)
       rw [Int.toNat_natCast] at z0 z1
       have HCE := am hCe
       have HM := am (show ∀ b : Bool, okC1 (rd_T69 c (k : Int)) = b → b = true → ∀ i : Nat, i < k + 1 → okC1 (rd_T69 c (i : Int)) = true from fun b hb ht i hi => by
         rcases Nat.lt_or_eq_of_le (Nat.le_of_lt_succ hi) with h1 | h1
         · exact HK.out i h1
         · rw [h1, hb, ht])
       have HBAD := am (show ∀ hbad : okC1 (rd_T69 c (k : Int)) = false, checkV c f = 140 from fun hbad => by
         unfold checkV
         rw [if_neg HN.out]
         rw [if_neg (by rw [HA0.out]; decide)]
         rw [if_neg (by rw [HA1.out]; decide)]
         exact if_pos (all_bad (memC c k (by omega)) hbad))
       clear hCe HK
       generalize rd_T69 c (k : Int) = x at z0 z1 HCE HM HBAD hce
       obtain ⟨s, g, q, o, hof⟩ : ∃ s g q o, ofF x.f0 = (s, g, q, o) := ⟨_, _, _, _, rfl⟩
       go_wp2_with fail
       have ho := of_calls x.f0 (wr.alloc (.cells #[.int .i64 x.f0, .slice Ae x.f1.length ce] 69))
       rw [hof] at ho
       refine ho.mono ?_
       rintro e w' ⟨rfl, hB'⟩
       have HB' := am (below_then (below_alloc HB2.out _) (below_alloc HB2.out _).size hB')
       clear ho hB'
       have ho : okC1 x = o := by unfold okC1; rw [hof]
       clear hof
       cases o with
       | true =>
        have hb := ho
        clear ho
        go_wp2
        go_roundg gk
        case measure => omega
        case rel => exact ⟨k + 1, by omega, by go_num, ⟨HM.out _ hb rfl⟩, ⟨below_alloc HB'.out _⟩⟩
       | false =>
        have hb := ho
        clear ho
        go_wp2
        go_ret
        exact ⟨by rw [HBAD.out hb]; rfl, below_alloc HB'.out _⟩
      | zero =>
       have hlt : decide ((k : Int) < (c.length : Int)) = false := decide_eq_false (by omega)
       have HA2 : Aside0 (c.all okC1 = true) := ⟨all_C (fun i hi => HK.out i (by omega))⟩
       have hltn2 : decide (k < c.length) = false := decide_eq_false (by omega)
       clear HK hlt
       go_wp2
       try rw [hltn0]
       try rw [hltn1]
       try rw [hltn2]
       go_loopg [68] f.length (fun kq v68 wr => ∃ k : Nat, k + kq = f.length ∧ v68 = .int .i64 (k : Int) ∧ Aside0 (∀ i : Nat, i < k → okF1 c.length (rd_T46 f (i : Int)) = true) ∧ Aside0 (Below w.heap.size w wr))
       case atStart => exact ⟨0, by omega, rfl, ⟨fun i hi => absurd hi (by omega)⟩, ⟨HB2.out⟩⟩
       case round =>
        obtain ⟨k, hk, rfl, HK, HB3⟩ := hrel
        cases gk with
        | succ gk =>
         have hlt : decide ((k : Int) < (f.length : Int)) = true := decide_eq_true (by omega)
         obtain ⟨ad, Ae, ce, rfl, z0, z1, z2, z3, hce, hCe⟩ := at_T46 (Kd.C_below HF.out HB3.out) (k : Int) (by omega) (by omega)
         rw [Int.toNat_natCast] at z0 z1 z2 z3
         have HCE := am hCe
         have HM := am (show ∀ b : Bool, okF1 c.length (rd_T46 f (k : Int)) = b → b = true → ∀ i : Nat, i < k + 1 → okF1 c.length (rd_T46 f (i : Int)) = true from fun b hb ht i hi => by
           rcases Nat.lt_or_eq_of_le (Nat.le_of_lt_succ hi) with h1 | h1
           · exact HK.out i h1
           · rw [h1, hb, ht])
         have HBAD := am (show ∀ hbad : okF1 c.length (rd_T46 f (k : Int)) = false, checkV c f = 140 from fun hbad => by
           unfold checkV
           rw [if_neg HN.out]
           rw [if_neg (by rw [HA0.out]; decide)]
           rw [if_neg (by rw [HA1.out]; decide)]
           rw [if_neg (by rw [HA2.out]; decide)]
           exact if_pos (all_bad (memF f k (by omega)) hbad))
         clear hCe HK
         generalize rd_T46 f (k : Int) = x at z0 z1 z2 z3 HCE HM HBAD hce
         have HO := am (show okF1 c.length x = (decide (0 ≤ x.f0) && decide (x.f0 < c.length) && !farB x.f1 && decide (0 ≤ x.f2) && decide (x.f2 ≤ 1048576)) from rfl)
         by_cases e0 : x.f0 < 0
         ·
          have h0 : decide (x.f0 < 0) = true := decide_eq_true e0
          have hb : okF1 c.length x = false := by rw [HO.out, decide_eq_false (show ¬ 0 ≤ x.f0 by omega)]; rfl
          go_wp2
          go_ret
          exact ⟨by rw [HBAD.out hb]; rfl, below_alloc HB3.out _⟩
         have h0 : decide (x.f0 < 0) = false := decide_eq_false e0
         by_cases e1 : (c.length : Int) ≤ x.f0
         ·
          have h1 : decide ((c.length : Int) ≤ x.f0) = true := decide_eq_true e1
          have hb : okF1 c.length x = false := by rw [HO.out, decide_eq_false (show ¬ x.f0 < (c.length : Int) by omega), Bool.and_false]; rfl
          go_wp2
          go_ret
          exact ⟨by rw [HBAD.out hb]; rfl, below_alloc HB3.out _⟩
         have h1 : decide ((c.length : Int) ≤ x.f0) = false := decide_eq_false e1
         go_wp2_with fail
         obtain ⟨u1, hu1⟩ : ∃ u1, u1 = wr.alloc (.cells #[.int .i64 x.f0, .int .i64 x.f1, .int .i64 x.f2, .slice Ae x.f3.length ce] 46) := ⟨_, rfl⟩
         have HU1 : Aside0 (Below w.heap.size w u1) := ⟨by rw [hu1]; exact below_alloc HB3.out _⟩
         have hG1 := blk_new wr (.cells #[.int .i64 x.f0, .int .i64 x.f1, .int .i64 x.f2, .slice Ae x.f3.length ce] 46)
         have hs1 : u1.heap.size = wr.heap.size + 1 := by rw [hu1]; simp
         rw [← hu1] at hG1 ⊢
         obtain ⟨u2, hu2⟩ : ∃ u2, u2 = u1.alloc (.cells #[.int .i64 x.f1] 3) := ⟨_, rfl⟩
         have HU2 : Aside0 (Below w.heap.size w u2) := ⟨by rw [hu2]; exact below_alloc HU1.out _⟩
         have hN := blk_new u1 (.cells #[.int .i64 x.f1] 3)
         have hG2 := blk_alloc hG1 (.cells #[.int .i64 x.f1] 3)
         rw [hs1] at hN
         rw [← hu2] at hN hG2 ⊢
         clear hu1 hu2 hG1 hs1
         have hcall := ehframe_near.calls 4 (some ⟨wr.heap.size + 1, 0, none⟩) 1 [x.f1] (!farB x.f1) u2 (C_blk (Kd.int .i64) (xs := [x.f1]) hN ((Reps.none _ _).snoc rfl rfl) (by simp)) (by simp) (near1 x.f1 4 (by omega))
         refine hcall.mono ?_
         rintro e w' ⟨rfl, q, rfl⟩
         have HB' := am (pw_below_drewN HU2.out q)
         have y2 : u2.cell? ⟨wr.heap.size, 2, none⟩ = some (.int .i64 x.f2) := (blk_cell hG2 2).trans rfl
         clear hcall hG2
         clear hN
         cases e2 : farB x.f1 with
         | true =>
          have hb : okF1 c.length x = false := by rw [HO.out, e2]; simp
          go_wp2
          go_ret
          exact ⟨by rw [HBAD.out hb]; rfl, HB'.out⟩
         | false =>
          by_cases e3 : x.f2 < 0
          ·
           have h3 : decide (x.f2 < 0) = true := decide_eq_true e3
           have hb : okF1 c.length x = false := by rw [HO.out, decide_eq_false (show ¬ 0 ≤ x.f2 by omega)]; simp
           go_wp2
           go_ret
           exact ⟨by rw [HBAD.out hb]; rfl, HB'.out⟩
          have h3 : decide (x.f2 < 0) = false := decide_eq_false e3
          by_cases e4 : 1048576 < x.f2
          ·
           have h4 : decide (1048576 < x.f2) = true := decide_eq_true e4
           have hb : okF1 c.length x = false := by rw [HO.out, decide_eq_false (show ¬ x.f2 ≤ 1048576 by omega)]; simp
           go_wp2
           go_ret
           exact ⟨by rw [HBAD.out hb]; rfl, HB'.out⟩
          have h4 : decide (1048576 < x.f2) = false := decide_eq_false e4
          have hb : okF1 c.length x = true := by rw [HO.out, e2, decide_eq_true (show 0 ≤ x.f0 by omega), decide_eq_true (show x.f0 < (c.length : Int) by omega), decide_eq_true (show 0 ≤ x.f2 by omega), decide_eq_true (show x.f2 ≤ 1048576 by omega)]; rfl
          go_wp2
          go_roundg gk
          case measure => omega
          case rel => exact ⟨k + 1, by omega, by go_num, ⟨HM.out _ hb rfl⟩, ⟨HB'.out⟩⟩
        | zero =>
         have hlt : decide ((k : Int) < (f.length : Int)) = false := decide_eq_false (by omega)
         have HA3 : Aside0 (f.all (okF1 c.length) = true) := ⟨all_F (fun i hi => HK.out i (by omega))⟩
         have hltn3 : decide (k < f.length) = false := decide_eq_false (by omega)
         clear HK hlt
         go_wp2
         try rw [hltn0]
         try rw [hltn1]
         try rw [hltn2]
         try rw [hltn3]
         go_loopg [102] c.length (fun kq v102 wr => ∃ k : Nat, k + kq = c.length ∧ v102 = .int .i64 (k : Int) ∧ Aside0 (∀ i : Nat, i < k → okC2 (rd_T69 c (i : Int)) = true) ∧ Aside0 (Below w.heap.size w wr))
         case atStart => exact ⟨0, by omega, rfl, ⟨fun i hi => absurd hi (by omega)⟩, ⟨HB3.out⟩⟩
         case round =>
          obtain ⟨k, hk, rfl, HK, HB4⟩ := hrel
          cases gk with
          | succ gk =>
           have hlt : decide ((k : Int) < (c.length : Int)) = true := decide_eq_true (by omega)
           obtain ⟨ad, Ae, ce, rfl, z0, z1, hce, hCe⟩ := at_T69 (Kd.C_below HC.out HB4.out) (k : Int) (by omega) (by omega)
           rw [Int.toNat_natCast] at z0 z1
           have HCE := am hCe
           have HM := am (show ∀ b : Bool, okC2 (rd_T69 c (k : Int)) = b → b = true → ∀ i : Nat, i < k + 1 → okC2 (rd_T69 c (i : Int)) = true from fun b hb ht i hi => by
             rcases Nat.lt_or_eq_of_le (Nat.le_of_lt_succ hi) with h1 | h1
             · exact HK.out i h1
             · rw [h1, hb, ht])
           have HBAD := am (show ∀ hbad : okC2 (rd_T69 c (k : Int)) = false, checkV c f = 130 from fun hbad => by
             unfold checkV
             rw [if_neg HN.out]
             rw [if_neg (by rw [HA0.out]; decide)]
             rw [if_neg (by rw [HA1.out]; decide)]
             rw [if_neg (by rw [HA2.out]; decide)]
             rw [if_neg (by rw [HA3.out]; decide)]
             exact if_pos (all_bad (memC c k (by omega)) hbad))
           clear hCe HK
           generalize rd_T69 c (k : Int) = x at z0 z1 HCE HM HBAD hce
           obtain ⟨R, hR⟩ : ∃ R, Cfa.rowsOf (Cfa.opl x.f1) (Cfa.opl []) 0 = R := ⟨_, rfl⟩
           have ho : okC2 x = decide (R.2 = 0) := by unfold okC2; rw [hR]
           go_wp2_with fail
           refine (Cfa.check_calls Ae ce x.f1 none 0 [] 0 _ (Kd.C_alloc HCE.out _) (Kd.C_nil _ _) R hR).mono ?_
           rintro e w' ⟨rfl, hB'⟩
           have HB' := am (below_then (below_alloc HB4.out _) (below_alloc HB4.out _).size hB')
           clear hB' hR
           by_cases e0 : R.2 = 0
           ·
            have hx : (R.2 != 0) = false := by simp [e0]
            have hb : okC2 x = true := by rw [ho, decide_eq_true e0]
            go_wp2
            go_roundg gk
            case measure => omega
            case rel => exact ⟨k + 1, by omega, by go_num, ⟨HM.out _ hb rfl⟩, ⟨HB'.out⟩⟩
           have hx : (R.2 != 0) = true := by simp [e0]
           have hb : okC2 x = false := by rw [ho, decide_eq_false e0]
           go_wp2
           go_ret
           exact ⟨by rw [HBAD.out hb]; rfl, HB'.out⟩
          | zero =>
           have hlt : decide ((k : Int) < (c.length : Int)) = false := decide_eq_false (by omega)
           have HA4 : Aside0 (c.all okC2 = true) := ⟨all_C (fun i hi => HK.out i (by omega))⟩
           have hltn4 : decide (k < c.length) = false := decide_eq_false (by omega)
           clear HK hlt
           go_wp2
           try rw [hltn0]
           try rw [hltn1]
           try rw [hltn2]
           try rw [hltn3]
           try rw [hltn4]
           go_loopg [113] f.length (fun kq v113 wr => ∃ k : Nat, k + kq = f.length ∧ v113 = .int .i64 (k : Int) ∧ Aside0 (∀ i : Nat, i < k → okF2 c (rd_T46 f (i : Int)) = true) ∧ Aside0 (Below w.heap.size w wr))
           case atStart => exact ⟨0, by omega, rfl, ⟨fun i hi => absurd hi (by omega)⟩, ⟨HB4.out⟩⟩
           case round =>
            obtain ⟨k, hk, rfl, HK, HB5⟩ := hrel
            cases gk with
            | succ gk =>
             have hlt : decide ((k : Int) < (f.length : Int)) = true := decide_eq_true (by omega)
             obtain ⟨ad, Ae, ce, rfl, z0, z1, z2, z3, hce, hCe⟩ := at_T46 (Kd.C_below HF.out HB5.out) (k : Int) (by omega) (by omega)
             rw [Int.toNat_natCast] at z0 z1 z2 z3
             have HCE := am hCe
             have HM := am (show ∀ b : Bool, okF2 c (rd_T46 f (k : Int)) = b → b = true → ∀ i : Nat, i < k + 1 → okF2 c (rd_T46 f (i : Int)) = true from fun b hb ht i hi => by
               rcases Nat.lt_or_eq_of_le (Nat.le_of_lt_succ hi) with h1 | h1
               · exact HK.out i h1
               · rw [h1, hb, ht])
             have HBAD := am (show ∀ hbad : okF2 c (rd_T46 f (k : Int)) = false, checkV c f = 130 from fun hbad => by
               unfold checkV
               rw [if_neg HN.out]
               rw [if_neg (by rw [HA0.out]; decide)]
               rw [if_neg (by rw [HA1.out]; decide)]
               rw [if_neg (by rw [HA2.out]; decide)]
               rw [if_neg (by rw [HA3.out]; decide)]
               rw [if_neg (by rw [HA4.out]; decide)]
               exact if_pos (all_bad (memF f k (by omega)) hbad))
             clear hCe HK
             have hok := List.all_eq_true.1 HA3.out _ (memF f k (by omega))
             generalize rd_T46 f (k : Int) = x at z0 z1 z2 z3 HCE HM HBAD hok hce
             unfold okF1 at hok
             simp only [Bool.and_eq_true, decide_eq_true_eq] at hok
             obtain ⟨⟨⟨⟨o0, o1⟩, _⟩, _⟩, _⟩ := hok
             obtain ⟨adc, Ac, cc, rfl, y0, y1, hcc, hCc⟩ := at_T69 (Kd.C_below HC.out HB5.out) x.f0 o0 o1
             have HCC := am hCc
             obtain ⟨R, hR⟩ : ∃ R, Cfa.rowsOf (Cfa.opl (rd_T69 c x.f0).f1) (Cfa.opl x.f3) x.f2 = R := ⟨_, rfl⟩
             have ho : okF2 c x = decide (R.2 = 0) := by unfold okF2; rw [hR]
             generalize rd_T69 c x.f0 = y at y0 y1 hcc HCC hR
             clear hCc y0
             go_upto_region 37 with fail
             have hG := blk_new wr (.cells #[.int .i64 x.f0, .int .i64 x.f1, .int .i64 x.f2, .slice Ae x.f3.length ce] 46)
             have hBg := below_alloc (Below.refl wr.heap.size wr) (.cells #[.int .i64 x.f0, .int .i64 x.f1, .int .i64 x.f2, .slice Ae x.f3.length ce] 46)
             obtain ⟨u, hu⟩ : ∃ u, u = wr.alloc (.cells #[.int .i64 x.f0, .int .i64 x.f1, .int .i64 x.f2, .slice Ae x.f3.length ce] 46) := ⟨_, rfl⟩
             rw [← hu] at hG hBg ⊢
             have HU := am (below_then HB5.out HB5.out.size hBg)
             have HCE' := am (Kd.C_below HCE.out hBg)
             have HCC' := am (Kd.C_below HCC.out hBg)
             have y1' := pw_cell_below hBg y1
             clear hu hBg z0 z1 z2 z3 y1
             refine start_ (n := 12) (S := fun u => u.cell? ⟨wr.heap.size, 0, none⟩ = some (.int .i64 x.f0) ∧ u.cell? ⟨wr.heap.size, 3, none⟩ = some (.slice Ae x.f3.length ce) ∧ u.cell? ⟨wr.heap.size, 2, none⟩ = some (.int .i64 x.f2) ∧ u.cell? ⟨(adc.add (x.f0.toNat * 2)).block, (adc.add (x.f0.toNat * 2)).off + 1, none⟩ = some (.slice Ac y.f1.length cc)) (ds := [10]) (bm 12 0) (by kernel_rfl) rfl rfl ?_ (fun hHeld => ?_)
             case refine_1 => exact ⟨(blk_cell (blk_drew hG) 0).trans rfl, (blk_cell (blk_drew hG) 3).trans rfl, (blk_cell (blk_drew hG) 2).trans rfl, y1'⟩
             refine pure_ (i := 0) (N := some 117) (v := ?_) (a' := ?_) (bm 12 1) rfl rfl (by kernel_rfl) (fun _ _ _ h => h) (Or.inl ⟨by rfl, ?_⟩) ?_ ?_
             rotate_left
             ·
              intro u
              go_simp
              with_reducible rfl
             rotate_left
             ·
              simp only [pz]
              rfl
             refine pure_ (i := 1) (N := some 118) (v := ?_) (a' := ?_) (bm 12 3) rfl rfl (by kernel_rfl) (fun _ _ _ h => h) (Or.inl ⟨by rfl, ?_⟩) ?_ ?_
             rotate_left
             ·
              intro u
              go_simp
              with_reducible rfl
             rotate_left
             ·
              simp only [pz]
              rfl
             refine take_ (i := 2) (N := some 119) (v := ?_) (a' := ?_) (bm 12 7) rfl rfl (by kernel_rfl) (fun _ _ _ h => h) (Or.inl ⟨by rfl, ?_⟩) hHeld ?_ ?_
             rotate_left
             ·
              rintro u ⟨s0, s1, s2, s3⟩
              go_simp
              with_reducible rfl
             rotate_left
             ·
              simp only [pz]
              rfl
             refine pure_ (i := 3) (N := some 120) (v := ?_) (a' := ?_) (bm 12 15) rfl rfl (by kernel_rfl) (fun _ _ _ h => h) (Or.inl ⟨by rfl, ?_⟩) ?_ ?_
             rotate_left
             ·
              intro u
              go_simp
              with_reducible rfl
             rotate_left
             ·
              simp only [pz]
              rfl
             refine pure_ (i := 4) (N := some 121) (v := ?_) (a' := ?_) (bm 12 31) rfl rfl (by kernel_rfl) (fun _ _ _ h => h) (Or.inl ⟨by rfl, ?_⟩) ?_ ?_
             rotate_left
             ·
              intro u
              go_simp
              with_reducible rfl
             rotate_left
             ·
              simp only [pz]
              rfl
             refine take_ (i := 5) (N := some 122) (v := ?_) (a' := ?_) (bm 12 63) rfl rfl (by kernel_rfl) (fun _ _ _ h => h) (Or.inl ⟨by rfl, ?_⟩) hHeld ?_ ?_
             rotate_left
             ·
              rintro u ⟨s0, s1, s2, s3⟩
              go_simp
              with_reducible rfl
             rotate_left
             ·
              simp only [pz]
              rfl
             refine pure_ (i := 6) (N := some 123) (v := ?_) (a' := ?_) (bm 12 127) rfl rfl (by kernel_rfl) (fun _ _ _ h => h) (Or.inl ⟨by rfl, ?_⟩) ?_ ?_
             rotate_left
             ·
              intro u
              go_simp
              with_reducible rfl
             rotate_left
             ·
              simp only [pz]
              rfl
             refine take_ (i := 7) (N := some 124) (v := ?_) (a' := ?_) (bm 12 255) rfl rfl (by kernel_rfl) (fun _ _ _ h => h) (Or.inl ⟨by rfl, ?_⟩) hHeld ?_ ?_
             rotate_left
             ·
              rintro u ⟨s0, s1, s2, s3⟩
              go_simp
              with_reducible rfl
             rotate_left
             ·
              simp only [pz]
              rfl
             refine pure_ (i := 8) (N := some 125) (v := ?_) (a' := ?_) (bm 12 511) rfl rfl (by kernel_rfl) (fun _ _ _ h => h) (Or.inl ⟨by rfl, ?_⟩) ?_ ?_
             rotate_left
             ·
              intro u
              go_simp
              with_reducible rfl
             rotate_left
             ·
              simp only [pz]
              rfl
             refine take_ (i := 9) (N := some 126) (v := ?_) (a' := ?_) (bm 12 1023) rfl rfl (by kernel_rfl) (fun _ _ _ h => h) (Or.inl ⟨by rfl, ?_⟩) hHeld ?_ ?_
             rotate_left
             ·
              rintro u ⟨s0, s1, s2, s3⟩
              go_simp
              with_reducible rfl
             rotate_left
             ·
              simp only [pz]
              rfl
             refine last_ (i := 10) (N := some 127) (bm 12 2047) rfl rfl (by kernel_rfl) (by decide) (fun K hK => ?_)
             refine call_ 31 #[.slice Ac y.f1.length cc, .slice Ae x.f3.length ce, .int .i64 x.f2] (by rfl) rfl (by go_simp) ?_
             refine (Cfa.check_calls Ac cc y.f1 Ae ce x.f3 x.f2 _ (Kd.C_drew HCC'.out) (Kd.C_drew HCE'.out) R hR).mono ?_
             rintro e w' ⟨rfl, hB'⟩
             refine ⟨_, rfl, ?_⟩
             have HB' := am (below_then (below_drew HU.out) (below_drew HU.out).size hB')
             clear hB' hR hHeld
             refine hK.out _ _ ?_
             clear hK K
             refine norm_ (a' := ?_) ?_ ?_
             rotate_left
             ·
              show Act.put _ (some 127) _ = _
              simp only [pz]
              rfl
             refine pure_ (i := 11) (N := some 128) (v := ?_) (a' := ?_) (bm 12 4095) rfl rfl (by kernel_rfl) (fun _ _ _ h => h) (Or.inl ⟨by rfl, ?_⟩) ?_ ?_
             rotate_left
             ·
              intro u
              go_simp
              with_reducible rfl
             rotate_left
             ·
              simp only [pz]
              rfl
             refine done_ (by kernel_rfl) ?_
             by_cases e0 : R.2 = 0
             ·
              have hx : (R.2 != 0) = false := by simp [e0]
              have hb : okF2 c x = true := by rw [ho, decide_eq_true e0]
              go_wp2
              go_roundg gk
              case measure => omega
              case rel => exact ⟨k + 1, by omega, by go_num, ⟨HM.out _ hb rfl⟩, ⟨HB'.out⟩⟩
             have hx : (R.2 != 0) = true := by simp [e0]
             have hb : okF2 c x = false := by rw [ho, decide_eq_false e0]
             go_wp2
             go_ret
             exact ⟨by rw [HBAD.out hb]; rfl, HB'.out⟩
            | zero =>
             have hlt : decide ((k : Int) < (f.length : Int)) = false := decide_eq_false (by omega)
             have HA5 : Aside0 (f.all (okF2 c) = true) := ⟨all_F (fun i hi => HK.out i (by omega))⟩
             have hltn5 : decide (k < f.length) = false := decide_eq_false (by omega)
             clear HK hlt
             go_wp2
             go_ret
             refine ⟨?_, HB5.out⟩
             unfold checkV
             rw [if_neg HN.out, HA0.out, HA1.out, HA2.out, HA3.out, HA4.out, HA5.out]
             rfl
end Go.Proofs.Ytfgfnflhdabmcaa.Eh
end
section
namespace Go.Proofs.Ytfgfnflhdabmcaa.G
open Go.RowKit Go.Proofs.YtfgfnflhdabmcaaW.PrintWords Go.Proofs.YtfgfnflhdabmcaaW.PrintLast Go.Proofs.YtfgfnflhdabmcaaW.PrintMore
attribute [local go_sem] max2_int min2_int max_two min_two max_three min_three max_four min_four
/-- the error's number of two tables -/
def ehframe_Check.f (k : Nat) (l0 : List S69) (l1 : List S46) : Option Int := some (Eh.checkV l0 l1)
theorem ehframe_Check.mono : ∀ a0 a1 k, LeO (ehframe_Check.f k a0 a1) (ehframe_Check.f (k + 1) a0 a1) := fun _ _ _ => LeO.refl _
theorem ehframe_Check.calls (k : Nat) (A0 : Option Addr) (c0 : Nat) (l0 : List S69) (A1 : Option Addr) (c1 : Nat) (l1 : List S46) (r : Int) (w : World) (hr0 : Kd.C k69 w A0 l0.length l0) (hc0 : l0.length ≤ c0) (hr1 : Kd.C k46 w A1 l1.length l1) (hc1 : l1.length ≤ c1) (h : ehframe_Check.f k l0 l1 = some r) :
    Calls Try.prog 12 #[.slice A0 l0.length c0, .slice A1 l1.length c1] w fun e w' => e = .returned (.int .i64 r) ∧ Below w.heap.size w w' := by
 obtain rfl := Option.some.inj h
 exact Eh.check_calls A0 c0 l0 A1 c1 l1 w hr0 hc0 hr1 hc1
/-- an encoding's form (size, sign), what it is counted from, and whether it is one -/
def ehframe_of.f (a0 : Int) : Option (Int × Bool × Int × Bool) := some (EhOf.ofF a0)
theorem ehframe_of.calls (a0 r1 : Int) (r2 : Bool) (r3 : Int) (r4 : Bool) (w : World) (h : ehframe_of.f a0 = some (r1, r2, r3, r4)) :
    Calls Try.prog 29 #[.int .i64 a0] w fun e w' => e = .returned (.tuple #[.agg #[.int .i64 r1, .bool r2], .int .i64 r3, .bool r4]) ∧ Below w.heap.size w w' := by
 have e := Option.some.inj h
 have hc := EhOf.of_calls a0 w
 rw [e] at hc
 exact hc
def leb_Sleb.l0 : Nat → Int → List Int → Option (List Int)
  | 0, _, _ => none
  | k + 1, x0, x3 => if x0 < (-64) then (if x3.length < 140737488355328 then (leb_Sleb.l0 k (x0 / 128) (x3 ++ [Go.bits .or .u8 ((x0) % 256) 128])) else (none)) else (if x0 > 63 then (if x3.length < 140737488355328 then (leb_Sleb.l0 k (x0 / 128) (x3 ++ [Go.bits .or .u8 ((x0) % 256) 128])) else (none)) else (if x3.length < 140737488355328 then (some (x3 ++ [Go.bits .and .u8 ((x0) % 256) 127])) else (none)))
def leb_Sleb.f (k : Nat) (a0 : Int) : Option (List Int) := leb_Sleb.l0 k a0 ([] : List Int)
theorem leb_Sleb.mono_l : ∀ k, (∀ y0 y1, LeO (leb_Sleb.l0 k y0 y1) (leb_Sleb.l0 (k + 1) y0 y1))
  | 0 => fun _ _ r h => by simp [leb_Sleb.l0] at h
  | k + 1 => by
    have ih0 := leb_Sleb.mono_l k
    · intro y0 y1
      unfold leb_Sleb.l0
      repeat' first
      | (with_reducible exact ih0 _ _)
      | (with_reducible exact LeO.refl _)
      | (with_reducible exact LeO.none _)
      | (with_reducible refine LeO.ite ?_ ?_)
      | (with_reducible refine LeO.bind ?_ (fun _ => ?_))
      | exact ih0 _ _
      | exact LeO.none _
      | refine LeO.ite ?_ ?_
      | refine LeO.bind ?_ (fun _ => ?_)
theorem leb_Sleb.mono : ∀ a0 k, LeO (leb_Sleb.f k a0) (leb_Sleb.f (k + 1) a0) := by
 intro a0 k
 have ih0 := leb_Sleb.mono_l k
 unfold leb_Sleb.f
 repeat' first
     | (with_reducible exact ih0 _ _)
     | (with_reducible exact LeO.refl _)
     | (with_reducible exact LeO.none _)
     | (with_reducible refine LeO.ite ?_ ?_)
     | (with_reducible refine LeO.bind ?_ (fun _ => ?_))
     | exact ih0 _ _
     | exact LeO.none _
     | refine LeO.ite ?_ ?_
     | refine LeO.bind ?_ (fun _ => ?_)
set_option maxHeartbeats 8000000 in
theorem leb_Sleb.calls (k : Nat) (a0 : Int) (r : List Int) (w : World) (h : leb_Sleb.f k a0 = some r) :
    Calls Try.prog 37 #[.int .i64 a0] w fun e w' => ∃ v0_ : Value, e = .returned (v0_) ∧ Kd.R (Kd.int .u8) 5 w' w.heap.size (fun _ => True) v0_ r ∧ Below w.heap.size w w' := by
 have HB := am (Below.refl w.heap.size w)
 have H : (leb_Sleb.l0 k a0 ([] : List Int)) = some r := h
 clear h
 have H' := am H
 clear H
 go_enter Try.func37, Try.ntmps37
 go_wp2
 go_loopg [0, 3] k (fun kq v0 v3 w' => ∃ (x0_1 : Int) (x3_1 : List Int), v0 = .int .i64 x0_1 ∧ Aside0 (leb_Sleb.l0 kq x0_1 x3_1 = some r) ∧ Aside0 (kq ≤ k) ∧ Aside0 (Kd.R (Kd.int .u8) 5 w' w.heap.size (fun _ => True) v3 x3_1) ∧ Aside0 (Below w.heap.size w w'))
 case atStart => exact ⟨(a0), (([] : List Int)), (by first | rfl | (simp; done) | (simp [*]; done)), H', ⟨Nat.le_refl _⟩, ⟨by first | exact Kd.R_nil _ _ _ _ _ | exact Kd.N_nil _ _ _ _ _⟩, ⟨by exact bl_g HB.out⟩⟩
 case round =>
  clear H'
  obtain ⟨x0_1, x3_1, rfl, HA, HK1, HO_3, HB⟩ := hrel
  cases gk with
  | zero => exact absurd HA.out (by simp [leb_Sleb.l0])
  | succ k1 =>
   have H := HA.out
   clear HA
   simp only [leb_Sleb.l0] at H
   by_cases c2 : x0_1 < (-64)
   ·
    rw [if_pos c2] at H
    have c2b0 : decide (x0_1 < (-64)) = true := decide_eq_true c2
    clear c2
    by_cases c3 : x3_1.length < 140737488355328
    rotate_left
    ·
     rw [if_neg c3] at H
     exact absurd H (by simp)
    rw [if_pos c3] at H
    have LMc3 := am c3
    clear c3
    obtain ⟨y101, hy101⟩ : ∃ y_ : List Int, y_ = (x3_1 ++ [Go.bits .or .u8 ((x0_1) % 256) 128]) := ⟨_, rfl⟩
    replace H : (leb_Sleb.l0 k1 (x0_1 / 128) y101) = some r := by first | (rw [hy101]; with_reducible exact H) | (have H2_ := (Option.bind_some _ _).symm.trans H; rw [hy101]; with_reducible exact H2_)
    have Ny101 := am hy101
    clear hy101
    have H' := am H
    clear H
    go_wp2_with (first | ((with_reducible refine gate_builtin (b := .append) (xs := #[.tmp 12, .tmp 16]) rfl ?_); at_builtin; refine Kd.R_append (Kd.int .u8) (w0 := w) w.heap.size rfl (.tmp 12) (.tmp 16) 28 5 (.int .u8 0) 1 rfl Try.underlying28 info5 rfl (by decide) (by omega) u3 x3_1 (Go.bits .or .u8 ((x0_1) % 256) 128) [.int .u8 (Go.bits .or .u8 ((x0_1) % 256) 128)] (fun _ => True) (fun _ => False) rfl rfl ?aP (fun _ hk => hk.elim) ?aF ?aO ?aB ?aS ?aL ?_; (case aP => exact rfl); (case aB => exact (by exact bl_o HB.out)); (case aF => exact (fun _ _ => trivial)); (case aO => exact (Kd.R_o HO_3.out)); (case aS => exact (below_size (by exact bl_o HB.out))); (case aL => have := LMc3.out; omega); intro v102 w4 ho hb hg hat; rw [← Ny101.out] at ho; refine mv2 (am (hb)) (am (ho)) ?_; clear HB HO_3; intro HB HO103; clear ho hb hg hat))
    go_roundg k1
    case measure => have := HK1.out; omega
    case rel => exact ⟨(x0_1 / 128), (y101), (by first | rfl | (simp; done) | (simp [*]; done)), H', ⟨by have := HK1.out; omega⟩, ⟨by (with_reducible repeat (first | apply Kd.R_alloc | apply Kd.R_drewN | apply Kd.R_drew)); exact HO103.out⟩, ⟨by exact bl_g HB.out⟩⟩
   rw [if_neg c2] at H
   have c2b0 : decide (x0_1 < (-64)) = false := decide_eq_false c2
   clear c2
   by_cases c5 : x0_1 > 63
   ·
    rw [if_pos c5] at H
    have c5b0 : decide (63 < x0_1) = true := decide_eq_true c5
    clear c5
    by_cases c6 : x3_1.length < 140737488355328
    rotate_left
    ·
     rw [if_neg c6] at H
     exact absurd H (by simp)
    rw [if_pos c6] at H
    have LMc6 := am c6
    clear c6
    obtain ⟨y104, hy104⟩ : ∃ y_ : List Int, y_ = (x3_1 ++ [Go.bits .or .u8 ((x0_1) % 256) 128]) := ⟨_, rfl⟩
    replace H : (leb_Sleb.l0 k1 (x0_1 / 128) y104) = some r := by first | (rw [hy104]; with_reducible exact H) | (have H2_ := (Option.bind_some _ _).symm.trans H; rw [hy104]; with_reducible exact H2_)
    have Ny104 := am hy104
    clear hy104
    have H' := am H
    clear H
    go_wp2_with (first | ((with_reducible refine gate_builtin (b := .append) (xs := #[.tmp 12, .tmp 16]) rfl ?_); at_builtin; refine Kd.R_append (Kd.int .u8) (w0 := w) w.heap.size rfl (.tmp 12) (.tmp 16) 28 5 (.int .u8 0) 1 rfl Try.underlying28 info5 rfl (by decide) (by omega) u3 x3_1 (Go.bits .or .u8 ((x0_1) % 256) 128) [.int .u8 (Go.bits .or .u8 ((x0_1) % 256) 128)] (fun _ => True) (fun _ => False) rfl rfl ?aP (fun _ hk => hk.elim) ?aF ?aO ?aB ?aS ?aL ?_; (case aP => exact rfl); (case aB => exact (by exact bl_o HB.out)); (case aF => exact (fun _ _ => trivial)); (case aO => exact (Kd.R_o HO_3.out)); (case aS => exact (below_size (by exact bl_o HB.out))); (case aL => have := LMc6.out; omega); intro v105 w7 ho hb hg hat; rw [← Ny104.out] at ho; refine mv2 (am (hb)) (am (ho)) ?_; clear HB HO_3; intro HB HO106; clear ho hb hg hat))
    go_roundg k1
    case measure => have := HK1.out; omega
    case rel => exact ⟨(x0_1 / 128), (y104), (by first | rfl | (simp; done) | (simp [*]; done)), H', ⟨by have := HK1.out; omega⟩, ⟨by (with_reducible repeat (first | apply Kd.R_alloc | apply Kd.R_drewN | apply Kd.R_drew)); exact HO106.out⟩, ⟨by exact bl_g HB.out⟩⟩
   rw [if_neg c5] at H
   have c5b0 : decide (63 < x0_1) = false := decide_eq_false c5
   clear c5
   by_cases c8 : x3_1.length < 140737488355328
   rotate_left
   ·
    rw [if_neg c8] at H
    exact absurd H (by simp)
   rw [if_pos c8] at H
   have LMc8 := am c8
   clear c8
   obtain ⟨y107, hy107⟩ : ∃ y_ : List Int, y_ = (x3_1 ++ [Go.bits .and .u8 ((x0_1) % 256) 127]) := ⟨_, rfl⟩
   replace H : (some y107) = some r := by first | (rw [hy107]; with_reducible exact H) | (have H2_ := (Option.bind_some _ _).symm.trans H; rw [hy107]; with_reducible exact H2_)
   have Ny107 := am hy107
   clear hy107
   obtain rfl := Option.some.inj H
   go_wp2_with (first | ((with_reducible refine gate_builtin (b := .append) (xs := #[.tmp 18, .tmp 22]) rfl ?_); at_builtin; refine Kd.R_append (Kd.int .u8) (w0 := w) w.heap.size rfl (.tmp 18) (.tmp 22) 28 5 (.int .u8 0) 1 rfl Try.underlying28 info5 rfl (by decide) (by omega) u3 x3_1 (Go.bits .and .u8 ((x0_1) % 256) 127) [.int .u8 (Go.bits .and .u8 ((x0_1) % 256) 127)] (fun _ => True) (fun _ => False) rfl rfl ?aP (fun _ hk => hk.elim) ?aF ?aO ?aB ?aS ?aL ?_; (case aP => exact rfl); (case aB => exact (by exact bl_o HB.out)); (case aF => exact (fun _ _ => trivial)); (case aO => exact (Kd.R_o HO_3.out)); (case aS => exact (below_size (by exact bl_o HB.out))); (case aL => have := LMc8.out; omega); intro v108 w9 ho hb hg hat; rw [← Ny107.out] at ho; refine mv2 (am (hb)) (am (ho)) ?_; clear HB HO_3; intro HB HO109; clear ho hb hg hat))
   go_ret
   exact ⟨_, rfl, by (with_reducible repeat (first | apply Kd.R_alloc | apply Kd.R_drewN | apply Kd.R_drew)); exact HO109.out, by exact bl_g HB.out⟩
def leb_Uleb.l0 : Nat → List Int → Int → Option (List Int)
  | 0, _, _ => none
  | k + 1, x3, x4 => if x4 > 127 then (if x3.length < 140737488355328 then (leb_Uleb.l0 k (x3 ++ [Go.bits .or .u8 ((x4) % 256) 128]) (x4 / 128)) else (none)) else (if x3.length < 140737488355328 then (some (x3 ++ [(x4) % 256])) else (none))
def leb_Uleb.f (k : Nat) (a0 : Int) : Option (List Int) := leb_Uleb.l0 k ([] : List Int) (IntKind.u64.wrap (a0))
theorem leb_Uleb.mono_l : ∀ k, (∀ y0 y1, LeO (leb_Uleb.l0 k y0 y1) (leb_Uleb.l0 (k + 1) y0 y1))
  | 0 => fun _ _ r h => by simp [leb_Uleb.l0] at h
  | k + 1 => by
    have ih0 := leb_Uleb.mono_l k
    · intro y0 y1
      unfold leb_Uleb.l0
      repeat' first
      | (with_reducible exact ih0 _ _)
      | (with_reducible exact LeO.refl _)
      | (with_reducible exact LeO.none _)
      | (with_reducible refine LeO.ite ?_ ?_)
      | (with_reducible refine LeO.bind ?_ (fun _ => ?_))
      | exact ih0 _ _
      | exact LeO.none _
      | refine LeO.ite ?_ ?_
      | refine LeO.bind ?_ (fun _ => ?_)
theorem leb_Uleb.mono : ∀ a0 k, LeO (leb_Uleb.f k a0) (leb_Uleb.f (k + 1) a0) := by
 intro a0 k
 have ih0 := leb_Uleb.mono_l k
 unfold leb_Uleb.f
 repeat' first
     | (with_reducible exact ih0 _ _)
     | (with_reducible exact LeO.refl _)
     | (with_reducible exact LeO.none _)
     | (with_reducible refine LeO.ite ?_ ?_)
     | (with_reducible refine LeO.bind ?_ (fun _ => ?_))
     | exact ih0 _ _
     | exact LeO.none _
     | refine LeO.ite ?_ ?_
     | refine LeO.bind ?_ (fun _ => ?_)
set_option maxHeartbeats 8000000 in
theorem leb_Uleb.calls (k : Nat) (a0 : Int) (r : List Int) (w : World) (h : leb_Uleb.f k a0 = some r) :
    Calls Try.prog 38 #[.int .i64 a0] w fun e w' => ∃ v0_ : Value, e = .returned (v0_) ∧ Kd.R (Kd.int .u8) 5 w' w.heap.size (fun _ => True) v0_ r ∧ Below w.heap.size w w' := by
 have HB := am (Below.refl w.heap.size w)
 have H : (leb_Uleb.l0 k ([] : List Int) (IntKind.u64.wrap (a0))) = some r := h
 clear h
 have H' := am H
 clear H
 go_enter Try.func38, Try.ntmps38
 go_wp2
 go_loopg [3, 4] k (fun kq v3 v4 w' => ∃ (x3_1 : List Int) (x4_1 : Int), v4 = .int .u64 x4_1 ∧ Aside0 (leb_Uleb.l0 kq x3_1 x4_1 = some r) ∧ Aside0 (kq ≤ k) ∧ Aside0 (Kd.R (Kd.int .u8) 5 w' w.heap.size (fun _ => True) v3 x3_1) ∧ Aside0 (Below w.heap.size w w'))
 case atStart => exact ⟨(([] : List Int)), (IntKind.u64.wrap (a0)), (by first | rfl | (simp; done) | (simp [*]; done)), H', ⟨Nat.le_refl _⟩, ⟨by first | exact Kd.R_nil _ _ _ _ _ | exact Kd.N_nil _ _ _ _ _⟩, ⟨by exact bl_g HB.out⟩⟩
 case round =>
  clear H'
  obtain ⟨x3_1, x4_1, rfl, HA, HK1, HO_3, HB⟩ := hrel
  cases gk with
  | zero => exact absurd HA.out (by simp [leb_Uleb.l0])
  | succ k1 =>
   have H := HA.out
   clear HA
   simp only [leb_Uleb.l0] at H
   by_cases c2 : x4_1 > 127
   ·
    rw [if_pos c2] at H
    have c2b0 : decide (127 < x4_1) = true := decide_eq_true c2
    clear c2
    by_cases c3 : x3_1.length < 140737488355328
    rotate_left
    ·
     rw [if_neg c3] at H
     exact absurd H (by simp)
    rw [if_pos c3] at H
    have LMc3 := am c3
    clear c3
    obtain ⟨y101, hy101⟩ : ∃ y_ : List Int, y_ = (x3_1 ++ [Go.bits .or .u8 ((x4_1) % 256) 128]) := ⟨_, rfl⟩
    replace H : (leb_Uleb.l0 k1 y101 (x4_1 / 128)) = some r := by first | (rw [hy101]; with_reducible exact H) | (have H2_ := (Option.bind_some _ _).symm.trans H; rw [hy101]; with_reducible exact H2_)
    have Ny101 := am hy101
    clear hy101
    have H' := am H
    clear H
    go_wp2_with (first | ((with_reducible refine gate_builtin (b := .append) (xs := #[.tmp 11, .tmp 15]) rfl ?_); at_builtin; refine Kd.R_append (Kd.int .u8) (w0 := w) w.heap.size rfl (.tmp 11) (.tmp 15) 28 5 (.int .u8 0) 1 rfl Try.underlying28 info5 rfl (by decide) (by omega) u3 x3_1 (Go.bits .or .u8 ((x4_1) % 256) 128) [.int .u8 (Go.bits .or .u8 ((x4_1) % 256) 128)] (fun _ => True) (fun _ => False) rfl rfl ?aP (fun _ hk => hk.elim) ?aF ?aO ?aB ?aS ?aL ?_; (case aP => exact rfl); (case aB => exact (by exact bl_o HB.out)); (case aF => exact (fun _ _ => trivial)); (case aO => exact (Kd.R_o HO_3.out)); (case aS => exact (below_size (by exact bl_o HB.out))); (case aL => have := LMc3.out; omega); intro v102 w4 ho hb hg hat; rw [← Ny101.out] at ho; refine mv2 (am (hb)) (am (ho)) ?_; clear HB HO_3; intro HB HO103; clear ho hb hg hat))
    go_roundg k1
    case measure => have := HK1.out; omega
    case rel => exact ⟨(y101), (x4_1 / 128), (by first | rfl | (simp; done) | (simp [*]; done)), H', ⟨by have := HK1.out; omega⟩, ⟨by (with_reducible repeat (first | apply Kd.R_alloc | apply Kd.R_drewN | apply Kd.R_drew)); exact HO103.out⟩, ⟨by exact bl_g HB.out⟩⟩
   rw [if_neg c2] at H
   have c2b0 : decide (127 < x4_1) = false := decide_eq_false c2
   clear c2
   by_cases c5 : x3_1.length < 140737488355328
   rotate_left
   ·
    rw [if_neg c5] at H
    exact absurd H (by simp)
   rw [if_pos c5] at H
   have LMc5 := am c5
   clear c5
   obtain ⟨y104, hy104⟩ : ∃ y_ : List Int, y_ = (x3_1 ++ [(x4_1) % 256]) := ⟨_, rfl⟩
   replace H : (some y104) = some r := by first | (rw [hy104]; with_reducible exact H) | (have H2_ := (Option.bind_some _ _).symm.trans H; rw [hy104]; with_reducible exact H2_)
   have Ny104 := am hy104
   clear hy104
   obtain rfl := Option.some.inj H
   go_wp2_with (first | ((with_reducible refine gate_builtin (b := .append) (xs := #[.tmp 17, .tmp 20]) rfl ?_); at_builtin; refine Kd.R_append (Kd.int .u8) (w0 := w) w.heap.size rfl (.tmp 17) (.tmp 20) 28 5 (.int .u8 0) 1 rfl Try.underlying28 info5 rfl (by decide) (by omega) u3 x3_1 ((x4_1) % 256) [.int .u8 ((x4_1) % 256)] (fun _ => True) (fun _ => False) rfl rfl ?aP (fun _ hk => hk.elim) ?aF ?aO ?aB ?aS ?aL ?_; (case aP => exact rfl); (case aB => exact (by exact bl_o HB.out)); (case aF => exact (fun _ _ => trivial)); (case aO => exact (Kd.R_o HO_3.out)); (case aS => exact (below_size (by exact bl_o HB.out))); (case aL => have := LMc5.out; omega); intro v105 w6 ho hb hg hat; rw [← Ny104.out] at ho; refine mv2 (am (hb)) (am (ho)) ?_; clear HB HO_3; intro HB HO106; clear ho hb hg hat))
   go_ret
   exact ⟨_, rfl, by (with_reducible repeat (first | apply Kd.R_alloc | apply Kd.R_drewN | apply Kd.R_drew)); exact HO106.out, by exact bl_g HB.out⟩
def leb_Fits.j0 : Nat → Int → Int → Bool → Bool → Option (Bool)
  | 0, _, _, _, _ => none
  | k + 1, x0, x1, x2, x7 => if x7 = true then (some false) else (if x2 = true then (if x1 = 64 then (some true) else (if 0 ≤ (wrap64 (x1 - 1)) then (if x0 ≥ (shl .i64 (-1) (wrap64 (x1 - 1))) then (some (decide (x0 < (shl .i64 1 (wrap64 (x1 - 1)))))) else (some false)) else (none))) else (if x0 < 0 then (some false) else (if x1 ≥ 63 then (some true) else (if 0 ≤ x1 then (some (decide (x0 < (shl .i64 1 x1)))) else (none)))))
def leb_Fits.f (k : Nat) (a0 : Int) (a1 : Int) (a2 : Bool) : Option (Bool) := if a1 < 1 then (leb_Fits.j0 k a0 a1 a2 true) else (leb_Fits.j0 k a0 a1 a2 (decide (a1 > 64)))
theorem leb_Fits.mono_l : ∀ k, (∀ y0 y1 y2 y3, LeO (leb_Fits.j0 k y0 y1 y2 y3) (leb_Fits.j0 (k + 1) y0 y1 y2 y3))
  | 0 => fun _ _ _ _ r h => by simp [leb_Fits.j0] at h
  | k + 1 => by
    have ih0 := leb_Fits.mono_l k
    · intro y0 y1 y2 y3
      unfold leb_Fits.j0
      repeat' first
      | (with_reducible exact ih0 _ _ _ _)
      | (with_reducible exact LeO.refl _)
      | (with_reducible exact LeO.none _)
      | (with_reducible refine LeO.ite ?_ ?_)
      | (with_reducible refine LeO.bind ?_ (fun _ => ?_))
      | exact ih0 _ _ _ _
      | exact LeO.none _
      | refine LeO.ite ?_ ?_
      | refine LeO.bind ?_ (fun _ => ?_)
theorem leb_Fits.mono : ∀ a0 a1 a2 k, LeO (leb_Fits.f k a0 a1 a2) (leb_Fits.f (k + 1) a0 a1 a2) := by
 intro a0 a1 a2 k
 have ih0 := leb_Fits.mono_l k
 unfold leb_Fits.f
 repeat' first
     | (with_reducible exact ih0 _ _ _ _)
     | (with_reducible exact LeO.refl _)
     | (with_reducible exact LeO.none _)
     | (with_reducible refine LeO.ite ?_ ?_)
     | (with_reducible refine LeO.bind ?_ (fun _ => ?_))
     | exact ih0 _ _ _ _
     | exact LeO.none _
     | refine LeO.ite ?_ ?_
     | refine LeO.bind ?_ (fun _ => ?_)
set_option maxHeartbeats 8000000 in
theorem leb_Fits.calls (k : Nat) (a0 : Int) (a1 : Int) (a2 : Bool) (r : Bool) (w : World) (h : leb_Fits.f k a0 a1 a2 = some r) :
    Calls Try.prog 39 #[.int .i64 a0, .int .i64 a1, .bool a2] w fun e w' => e = .returned (.bool r) ∧ Drawn0 w w' := by
 have H : (if a1 < 1 then (leb_Fits.j0 k a0 a1 a2 true) else (leb_Fits.j0 k a0 a1 a2 (decide (a1 > 64)))) = some r := h
 clear h
 have HC4 := am H
 clear H
 go_enter Try.func39, Try.ntmps39
 go_upto_region 1 with (fail)
 go_cut [7] (fun v7 wc => ∃ (kq : Nat) (x7_3 : Bool), v7 = .bool x7_3 ∧ Aside0 (leb_Fits.j0 kq a0 a1 a2 x7_3 = some r) ∧ Aside0 (kq ≤ k) ∧ Drawn0 w wc)
 case first =>
  have H := HC4.out
  clear HC4
  by_cases c5 : a1 < 1
  ·
   rw [if_pos c5] at H
   have c5b0 : decide (a1 < 1) = true := decide_eq_true c5
   clear c5
   (first | rw [c5b0] | (simp only [i64_w, i32_w]; rw [c5b0]) | skip)
   have H' := am H
   clear H
   go_wp2
   go_meet
   case rel => exact ⟨_, (true), (by first | rfl | (simp; done) | (simp [*]; done)), H', ⟨by first | omega | exact Nat.le_refl _⟩, by repeat (first | exact Drawn0.refl _ | apply Drawn0.step)⟩
  rw [if_neg c5] at H
  have c5b0 : decide (a1 < 1) = false := decide_eq_false c5
  clear c5
  (first | rw [c5b0] | (simp only [i64_w, i32_w]; rw [c5b0]) | skip)
  have H' := am H
  clear H
  go_wp2
  go_meet
  case rel => exact ⟨_, (decide (a1 > 64)), (by first | rfl | (simp; done) | (simp [*]; done)), H', ⟨by first | omega | exact Nat.le_refl _⟩, by repeat (first | exact Drawn0.refl _ | apply Drawn0.step)⟩
 case rest =>
  clear HC4
  try clear p2
  try clear c3
  try clear c5
  try clear c5b0
  obtain ⟨kq, x7_3, rfl, HA, HJ3, ⟨mc3, rfl⟩⟩ := hcut
  cases kq with
  | zero => exact absurd HA.out (by simp [leb_Fits.j0])
  | succ kj3 =>
   have H := HA.out
   clear HA
   simp only [leb_Fits.j0] at H
   by_cases c6 : x7_3 = true
   ·
    subst c6
    replace H : (some false) = some r := by rw [if_pos rfl] at H; exact H
    obtain rfl := Option.some.inj H
    go_wp2
    go_ret
    exact ⟨by first | rfl | (simp; done) | (simp [*]; done), by repeat (first | exact Drawn0.refl _ | apply Drawn0.step)⟩
   replace c6 := Bool.eq_false_iff.mpr c6
   subst c6
   replace H : (if a2 = true then (if a1 = 64 then (some true) else (if 0 ≤ (wrap64 (a1 - 1)) then (if a0 ≥ (shl .i64 (-1) (wrap64 (a1 - 1))) then (some (decide (a0 < (shl .i64 1 (wrap64 (a1 - 1)))))) else (some false)) else (none))) else (if a0 < 0 then (some false) else (if a1 ≥ 63 then (some true) else (if 0 ≤ a1 then (some (decide (a0 < (shl .i64 1 a1)))) else (none))))) = some r := by rw [if_neg (show ¬ (false = true) by decide)] at H; exact H
   by_cases c7 : a2 = true
   rotate_left
   ·
    replace c7 := Bool.eq_false_iff.mpr c7
    subst c7
    replace H : (if a0 < 0 then (some false) else (if a1 ≥ 63 then (some true) else (if 0 ≤ a1 then (some (decide (a0 < (shl .i64 1 a1)))) else (none)))) = some r := by rw [if_neg (show ¬ (false = true) by decide)] at H; exact H
    by_cases c15 : a0 < 0
    ·
     rw [if_pos c15] at H
     have c15b0 : decide (a0 < 0) = true := decide_eq_true c15
     clear c15
     obtain rfl := Option.some.inj H
     go_wp2
     go_ret
     exact ⟨by first | rfl | (simp; done) | (simp [*]; done), by repeat (first | exact Drawn0.refl _ | apply Drawn0.step)⟩
    rw [if_neg c15] at H
    have c15b0 : decide (a0 < 0) = false := decide_eq_false c15
    clear c15
    by_cases c16 : a1 ≥ 63
    ·
     rw [if_pos c16] at H
     have c16b0 : decide (63 ≤ a1) = true := decide_eq_true c16
     clear c16
     obtain rfl := Option.some.inj H
     go_wp2
     go_ret
     exact ⟨by first | rfl | (simp; done) | (simp [*]; done), by repeat (first | exact Drawn0.refl _ | apply Drawn0.step)⟩
    rw [if_neg c16] at H
    have c16b0 : decide (63 ≤ a1) = false := decide_eq_false c16
    clear c16
    by_cases c17 : 0 ≤ a1
    rotate_left
    ·
     rw [if_neg c17] at H
     exact absurd H (by simp)
    rw [if_pos c17] at H
    have c17b0 := eq_true c17
    have c17b1 : decide (0 ≤ a1) = true := decide_eq_true c17
    clear c17
    obtain ⟨ji18, hji18⟩ : ∃ j_ : Int, (shl .i64 1 a1) = j_ := ⟨_, rfl⟩
    replace H : (some (decide (a0 < (ji18)))) = some r := by first | (rw [hji18] at H; exact H) | (simp only [hji18] at H ⊢; exact H)
    have hji18_ : (IntKind.i64.wrap (1 * 2 ^ min a1.toNat 64)) = ji18 := hji18
    have hji18z : a1 ≤ 64 → (IntKind.i64.wrap (1 * 2 ^ a1.toNat)) = ji18 := shl_small hji18
    have hji18u : (IntKind.i64.wrap (2 ^ min a1.toNat 64)) = ji18 := by have h_ := hji18_; rw [Int.one_mul] at h_; exact h_
    have hji18v : a1 ≤ 64 → (IntKind.i64.wrap (2 ^ a1.toNat)) = ji18 := fun hle_ => by have h_ := hji18z hle_; rw [Int.one_mul] at h_; exact h_
    have hji18y : (wrap64 (1 * 2 ^ min a1.toNat 64)) = ji18 := (i64_w _).symm.trans hji18_
    have hji18x : a1 ≤ 64 → (wrap64 (1 * 2 ^ a1.toNat)) = ji18 := fun h_ => (i64_w _).symm.trans (hji18z h_)
    obtain rfl := Option.some.inj H
    go_wp2
    go_ret
    exact ⟨by first | rfl | (simp; done) | (simp only [← hji18] <;> (first | rfl | simp)) | (simp [*]; done), by repeat (first | exact Drawn0.refl _ | apply Drawn0.step)⟩
   subst c7
   replace H : (if a1 = 64 then (some true) else (if 0 ≤ (wrap64 (a1 - 1)) then (if a0 ≥ (shl .i64 (-1) (wrap64 (a1 - 1))) then (some (decide (a0 < (shl .i64 1 (wrap64 (a1 - 1)))))) else (some false)) else (none))) = some r := by rw [if_pos rfl] at H; exact H
   by_cases c8 : a1 = 64
   ·
    rw [if_pos c8] at H
    have c8b0 : (a1 == 64) = true := beq_iff_eq.mpr c8
    have c8b1 : (a1 != 64) = false := bne_eq_false_iff_eq.mpr c8
    clear c8
    obtain rfl := Option.some.inj H
    go_wp2
    go_ret
    exact ⟨by first | rfl | (simp; done) | (simp [*]; done), by repeat (first | exact Drawn0.refl _ | apply Drawn0.step)⟩
   rw [if_neg c8] at H
   have c8b0 : (a1 == 64) = false := beq_eq_false_iff_ne.mpr c8
   have c8b1 : (a1 != 64) = true := bne_iff_ne.mpr c8
   obtain ⟨ji9, hji9⟩ : ∃ j_ : Int, (wrap64 (a1 - 1)) = j_ := ⟨_, rfl⟩
   replace H : (if 0 ≤ (ji9) then (if a0 ≥ (shl .i64 (-1) (ji9)) then (some (decide (a0 < (shl .i64 1 (ji9))))) else (some false)) else (none)) = some r := by first | (rw [hji9] at H; exact H) | (simp only [hji9] at H ⊢; exact H)
   have hji9w : (IntKind.i64.wrap (a1 - 1)) = ji9 := (i64_w _).trans hji9
   by_cases c10 : 0 ≤ (ji9)
   rotate_left
   ·
    rw [if_neg c10] at H
    exact absurd H (by simp)
   rw [if_pos c10] at H
   have c10b0 := eq_true c10
   have c10b1 : decide (0 ≤ (ji9)) = true := decide_eq_true c10
   clear c10
   obtain ⟨ji11, hji11⟩ : ∃ j_ : Int, (shl .i64 (-1) (ji9)) = j_ := ⟨_, rfl⟩
   replace H : (if a0 ≥ (ji11) then (some (decide (a0 < (shl .i64 1 (ji9))))) else (some false)) = some r := by first | (rw [hji11] at H; exact H) | (simp only [hji11] at H ⊢; exact H)
   have hji11_ : (IntKind.i64.wrap ((-1) * 2 ^ min (ji9).toNat 64)) = ji11 := hji11
   have hji11z : (ji9) ≤ 64 → (IntKind.i64.wrap ((-1) * 2 ^ (ji9).toNat)) = ji11 := shl_small hji11
   (try (have hji11n : (IntKind.i64.wrap (-2 ^ min (ji9).toNat 64)) = ji11 := (congrArg IntKind.i64.wrap (Int.neg_one_mul _).symm).trans hji11_))
   (try (have hji11m : (ji9) ≤ 64 → (IntKind.i64.wrap (-2 ^ (ji9).toNat)) = ji11 := fun hle_ => (congrArg IntKind.i64.wrap (Int.neg_one_mul _).symm).trans (hji11z hle_)))
   (try (have hji11ny : (wrap64 (-2 ^ min (ji9).toNat 64)) = ji11 := (i64_w _).symm.trans hji11n))
   (try (have hji11my : (ji9) ≤ 64 → (wrap64 (-2 ^ (ji9).toNat)) = ji11 := fun h_ => (i64_w _).symm.trans (hji11m h_)))
   have hji11y : (wrap64 ((-1) * 2 ^ min (ji9).toNat 64)) = ji11 := (i64_w _).symm.trans hji11_
   have hji11x : (ji9) ≤ 64 → (wrap64 ((-1) * 2 ^ (ji9).toNat)) = ji11 := fun h_ => (i64_w _).symm.trans (hji11z h_)
   by_cases c12 : a0 ≥ (ji11)
   rotate_left
   ·
    rw [if_neg c12] at H
    have c12b0 : decide ((ji11) ≤ a0) = false := decide_eq_false c12
    clear c12
    obtain rfl := Option.some.inj H
    go_wp2
    go_ret
    exact ⟨by first | rfl | (simp; done) | (simp only [← hji9, ← hji11] <;> (first | rfl | simp)) | (simp [*]; done), by repeat (first | exact Drawn0.refl _ | apply Drawn0.step)⟩
   rw [if_pos c12] at H
   have c12b0 : decide ((ji11) ≤ a0) = true := decide_eq_true c12
   clear c12
   have c13b0 := eq_true (od : 0 ≤ (ji9))
   obtain ⟨ji14, hji14⟩ : ∃ j_ : Int, (shl .i64 1 (ji9)) = j_ := ⟨_, rfl⟩
   replace H : (some (decide (a0 < (ji14)))) = some r := by first | (rw [hji14] at H; exact H) | (simp only [hji14] at H ⊢; exact H)
   have hji14_ : (IntKind.i64.wrap (1 * 2 ^ min (ji9).toNat 64)) = ji14 := hji14
   have hji14z : (ji9) ≤ 64 → (IntKind.i64.wrap (1 * 2 ^ (ji9).toNat)) = ji14 := shl_small hji14
   have hji14u : (IntKind.i64.wrap (2 ^ min (ji9).toNat 64)) = ji14 := by have h_ := hji14_; rw [Int.one_mul] at h_; exact h_
   have hji14v : (ji9) ≤ 64 → (IntKind.i64.wrap (2 ^ (ji9).toNat)) = ji14 := fun hle_ => by have h_ := hji14z hle_; rw [Int.one_mul] at h_; exact h_
   have hji14y : (wrap64 (1 * 2 ^ min (ji9).toNat 64)) = ji14 := (i64_w _).symm.trans hji14_
   have hji14x : (ji9) ≤ 64 → (wrap64 (1 * 2 ^ (ji9).toNat)) = ji14 := fun h_ => (i64_w _).symm.trans (hji14z h_)
   obtain rfl := Option.some.inj H
   go_wp2
   go_ret
   exact ⟨by first | rfl | (simp; done) | (simp only [← hji9, ← hji11, ← hji14] <;> (first | rfl | simp)) | (simp [*]; done), by repeat (first | exact Drawn0.refl _ | apply Drawn0.step)⟩
def leb_sized.f (a0 : Int) : Option (Bool) := if a0 = 1 then (some true) else (if a0 = 2 then (some true) else (if a0 = 4 then (some true) else (some (a0 == 8))))
set_option maxHeartbeats 8000000 in
theorem leb_sized.calls (a0 : Int) (r : Bool) (w : World) (h : leb_sized.f a0 = some r) :
    Calls Try.prog 66 #[.int .i64 a0] w fun e w' => e = .returned (.bool r) ∧ Drawn0 w w' := by
 have H : (if a0 = 1 then (some true) else (if a0 = 2 then (some true) else (if a0 = 4 then (some true) else (some (a0 == 8))))) = some r := h
 clear h
 by_cases c2 : a0 = 1
 ·
  rw [if_pos c2] at H
  have c2b0 : (a0 == 1) = true := beq_iff_eq.mpr c2
  have c2b1 : (a0 != 1) = false := bne_eq_false_iff_eq.mpr c2
  clear c2
  obtain rfl := Option.some.inj H
  go_enter Try.func66, Try.ntmps66
  go_wp2
  go_ret
  exact ⟨by first | rfl | (simp; done) | (simp [*]; done), by repeat (first | exact Drawn0.refl _ | apply Drawn0.step)⟩
 rw [if_neg c2] at H
 have c2b0 : (a0 == 1) = false := beq_eq_false_iff_ne.mpr c2
 have c2b1 : (a0 != 1) = true := bne_iff_ne.mpr c2
 by_cases c3 : a0 = 2
 ·
  rw [if_pos c3] at H
  have c3b0 : (a0 == 2) = true := beq_iff_eq.mpr c3
  have c3b1 : (a0 != 2) = false := bne_eq_false_iff_eq.mpr c3
  clear c3
  obtain rfl := Option.some.inj H
  go_enter Try.func66, Try.ntmps66
  go_wp2
  go_ret
  exact ⟨by first | rfl | (simp; done) | (simp [*]; done), by repeat (first | exact Drawn0.refl _ | apply Drawn0.step)⟩
 rw [if_neg c3] at H
 have c3b0 : (a0 == 2) = false := beq_eq_false_iff_ne.mpr c3
 have c3b1 : (a0 != 2) = true := bne_iff_ne.mpr c3
 by_cases c4 : a0 = 4
 ·
  rw [if_pos c4] at H
  have c4b0 : (a0 == 4) = true := beq_iff_eq.mpr c4
  have c4b1 : (a0 != 4) = false := bne_eq_false_iff_eq.mpr c4
  clear c4
  obtain rfl := Option.some.inj H
  go_enter Try.func66, Try.ntmps66
  go_wp2
  go_ret
  exact ⟨by first | rfl | (simp; done) | (simp [*]; done), by repeat (first | exact Drawn0.refl _ | apply Drawn0.step)⟩
 rw [if_neg c4] at H
 have c4b0 : (a0 == 4) = false := beq_eq_false_iff_ne.mpr c4
 have c4b1 : (a0 != 4) = true := bne_iff_ne.mpr c4
 obtain rfl := Option.some.inj H
 go_enter Try.func66, Try.ntmps66
 go_wp2
 go_ret
 exact ⟨by first | rfl | (simp; done) | (simp [*]; done), by repeat (first | exact Drawn0.refl _ | apply Drawn0.step)⟩
def leb_low_uint64.l0 : Nat → Int → List Int → Int → Int → Option (List Int)
  | 0, _, _, _, _ => none
  | k + 1, x0, x5, x7, x8 => if x8 < x7 then (if 0 ≤ (wrap64 (8 * x8)) then (if x5.length < 140737488355328 then (leb_low_uint64.l0 k x0 (x5 ++ [(shr .u64 x0 (wrap64 (8 * x8))) % 256]) x7 (wrap64 (x8 + 1))) else (none)) else (none)) else (some x5)
def leb_low_uint64.f (k : Nat) (a0 : Int) (a1 : Int) : Option (List Int) := leb_low_uint64.l0 k a0 ([] : List Int) a1 0
theorem leb_low_uint64.mono_l : ∀ k, (∀ y0 y1 y2 y3, LeO (leb_low_uint64.l0 k y0 y1 y2 y3) (leb_low_uint64.l0 (k + 1) y0 y1 y2 y3))
  | 0 => fun _ _ _ _ r h => by simp [leb_low_uint64.l0] at h
  | k + 1 => by
    have ih0 := leb_low_uint64.mono_l k
    · intro y0 y1 y2 y3
      unfold leb_low_uint64.l0
      repeat' first
      | (with_reducible exact ih0 _ _ _ _)
      | (with_reducible exact LeO.refl _)
      | (with_reducible exact LeO.none _)
      | (with_reducible refine LeO.ite ?_ ?_)
      | (with_reducible refine LeO.bind ?_ (fun _ => ?_))
      | exact ih0 _ _ _ _
      | exact LeO.none _
      | refine LeO.ite ?_ ?_
      | refine LeO.bind ?_ (fun _ => ?_)
theorem leb_low_uint64.mono : ∀ a0 a1 k, LeO (leb_low_uint64.f k a0 a1) (leb_low_uint64.f (k + 1) a0 a1) := by
 intro a0 a1 k
 have ih0 := leb_low_uint64.mono_l k
 unfold leb_low_uint64.f
 repeat' first
     | (with_reducible exact ih0 _ _ _ _)
     | (with_reducible exact LeO.refl _)
     | (with_reducible exact LeO.none _)
     | (with_reducible refine LeO.ite ?_ ?_)
     | (with_reducible refine LeO.bind ?_ (fun _ => ?_))
     | exact ih0 _ _ _ _
     | exact LeO.none _
     | refine LeO.ite ?_ ?_
     | refine LeO.bind ?_ (fun _ => ?_)
set_option maxHeartbeats 8000000 in
theorem leb_low_uint64.calls (k : Nat) (a0 : Int) (a1 : Int) (r : List Int) (w : World) (h : leb_low_uint64.f k a0 a1 = some r) :
    Calls Try.prog 67 #[.int .u64 a0, .int .i64 a1] w fun e w' => ∃ v0_ : Value, e = .returned (v0_) ∧ Kd.R (Kd.int .u8) 5 w' w.heap.size (fun _ => True) v0_ r ∧ Below w.heap.size w w' := by
 have HB := am (Below.refl w.heap.size w)
 have H : (leb_low_uint64.l0 k a0 ([] : List Int) a1 0) = some r := h
 clear h
 have H' := am H
 clear H
 go_enter Try.func67, Try.ntmps67
 go_wp2
 go_loopg [5, 8] k (fun kq v5 v8 w' => ∃ (x5_1 : List Int) (x8_1 : Int), v8 = .int .i64 x8_1 ∧ Aside0 (leb_low_uint64.l0 kq a0 x5_1 a1 x8_1 = some r) ∧ Aside0 (kq ≤ k) ∧ Aside0 (Kd.R (Kd.int .u8) 5 w' w.heap.size (fun _ => True) v5 x5_1) ∧ Aside0 (Below w.heap.size w w'))
 case atStart => exact ⟨(([] : List Int)), (0), (by first | rfl | (simp; done) | (simp [*]; done)), H', ⟨Nat.le_refl _⟩, ⟨by first | exact Kd.R_nil _ _ _ _ _ | exact Kd.N_nil _ _ _ _ _⟩, ⟨by exact bl_g HB.out⟩⟩
 case round =>
  clear H'
  try clear p2
  obtain ⟨x5_1, x8_1, rfl, HA, HK1, HO_5, HB⟩ := hrel
  cases gk with
  | zero => exact absurd HA.out (by simp [leb_low_uint64.l0])
  | succ k1 =>
   have H := HA.out
   clear HA
   simp only [leb_low_uint64.l0] at H
   by_cases c3 : x8_1 < a1
   rotate_left
   ·
    rw [if_neg c3] at H
    have c3b0 : decide (x8_1 < a1) = false := decide_eq_false c3
    clear c3
    obtain rfl := Option.some.inj H
    go_wp2
    go_ret
    exact ⟨_, rfl, by (with_reducible repeat (first | apply Kd.R_alloc | apply Kd.R_drewN | apply Kd.R_drew)); exact HO_5.out, by exact bl_g HB.out⟩
   rw [if_pos c3] at H
   have c3b0 : decide (x8_1 < a1) = true := decide_eq_true c3
   clear c3
   obtain ⟨ji4, hji4⟩ : ∃ j_ : Int, (wrap64 (8 * x8_1)) = j_ := ⟨_, rfl⟩
   replace H : (if 0 ≤ (ji4) then (if x5_1.length < 140737488355328 then (leb_low_uint64.l0 k1 a0 (x5_1 ++ [(shr .u64 a0 (ji4)) % 256]) a1 (wrap64 (x8_1 + 1))) else (none)) else (none)) = some r := by first | (rw [hji4] at H; exact H) | (simp only [hji4] at H ⊢; exact H)
   have hji4w : (IntKind.i64.wrap (8 * x8_1)) = ji4 := (i64_w _).trans hji4
   by_cases c5 : 0 ≤ (ji4)
   rotate_left
   ·
    rw [if_neg c5] at H
    exact absurd H (by simp)
   rw [if_pos c5] at H
   have c5b0 := eq_true c5
   have c5b1 : decide (0 ≤ (ji4)) = true := decide_eq_true c5
   clear c5
   obtain ⟨ji6, hji6⟩ : ∃ j_ : Int, (shr .u64 a0 (ji4)) = j_ := ⟨_, rfl⟩
   replace H : (if x5_1.length < 140737488355328 then (leb_low_uint64.l0 k1 a0 (x5_1 ++ [(ji6) % 256]) a1 (wrap64 (x8_1 + 1))) else (none)) = some r := by first | (rw [hji6] at H; exact H) | (simp only [hji6] at H ⊢; exact H)
   have hji6_ : (a0 / 2 ^ min (ji4).toNat 64) = ji6 := hji6
   have hji6z : (ji4) ≤ 64 → (a0 / 2 ^ (ji4).toNat) = ji6 := shr_small hji6
   by_cases c7 : x5_1.length < 140737488355328
   rotate_left
   ·
    rw [if_neg c7] at H
    exact absurd H (by simp)
   rw [if_pos c7] at H
   have LMc7 := am c7
   clear c7
   obtain ⟨y101, hy101⟩ : ∃ y_ : List Int, y_ = (x5_1 ++ [(ji6) % 256]) := ⟨_, rfl⟩
   replace H : (leb_low_uint64.l0 k1 a0 y101 a1 (wrap64 (x8_1 + 1))) = some r := by first | (rw [hy101]; with_reducible exact H) | (have H2_ := (Option.bind_some _ _).symm.trans H; rw [hy101]; with_reducible exact H2_)
   have Ny101 := am hy101
   clear hy101
   have H' := am H
   clear H
   go_wp2_with (first | ((with_reducible refine gate_builtin (b := .append) (xs := #[.tmp 11, .tmp 17]) rfl ?_); at_builtin; refine Kd.R_append (Kd.int .u8) (w0 := w) w.heap.size rfl (.tmp 11) (.tmp 17) 28 5 (.int .u8 0) 1 rfl Try.underlying28 info5 rfl (by decide) (by omega) u5 x5_1 ((ji6) % 256) [.int .u8 ((ji6) % 256)] (fun _ => True) (fun _ => False) rfl rfl ?aP (fun _ hk => hk.elim) ?aF ?aO ?aB ?aS ?aL ?_; (case aP => exact rfl); (case aB => exact (by exact bl_o HB.out)); (case aF => exact (fun _ _ => trivial)); (case aO => exact (Kd.R_o HO_5.out)); (case aS => exact (below_size (by exact bl_o HB.out))); (case aL => have := LMc7.out; omega); intro v102 w8 ho hb hg hat; rw [← Ny101.out] at ho; refine mv2 (am (hb)) (am (ho)) ?_; clear HB HO_5; intro HB HO103; clear ho hb hg hat))
   go_roundg k1
   case measure => have := HK1.out; omega
   case rel => exact ⟨(y101), (wrap64 (x8_1 + 1)), (by first | rfl | (simp; done) | (simp [*]; done)), H', ⟨by have := HK1.out; omega⟩, ⟨by (with_reducible repeat (first | apply Kd.R_alloc | apply Kd.R_drewN | apply Kd.R_drew)); exact HO103.out⟩, ⟨by exact bl_g HB.out⟩⟩
def leb_Put.f (k : Nat) (a0 : Int) (a1 : Int) : Option (List Int × Int) := (leb_sized.f a1).bind fun t101 => (if t101 = true then (if a1 < 8 then (if 0 ≤ (wrap64 ((wrap64 (8 * a1)) - 1)) then (if a0 < (shl .i64 (-1) (wrap64 ((wrap64 (8 * a1)) - 1))) then (some (([] : List Int), 11)) else (if 0 ≤ (wrap64 (8 * a1)) then (if a0 ≥ (shl .i64 1 (wrap64 (8 * a1))) then (some (([] : List Int), 11)) else ((leb_low_uint64.f k (IntKind.u64.wrap (a0)) a1).bind fun t102 => (some (t102, 0)))) else (none))) else (none)) else ((leb_low_uint64.f k (IntKind.u64.wrap (a0)) a1).bind fun t105 => (some (t105, 0)))) else (some (([] : List Int), 1)))
theorem leb_Put.mono : ∀ a0 a1 k, LeO (leb_Put.f k a0 a1) (leb_Put.f (k + 1) a0 a1) := by
 intro a0 a1 k
 unfold leb_Put.f
 repeat' first
     | (with_reducible exact leb_low_uint64.mono _ _ _)
     | (with_reducible exact LeO.refl _)
     | (with_reducible exact LeO.none _)
     | (with_reducible refine LeO.ite ?_ ?_)
     | (with_reducible refine LeO.bind ?_ (fun _ => ?_))
     | exact leb_low_uint64.mono _ _ _
     | exact LeO.none _
     | refine LeO.ite ?_ ?_
     | refine LeO.bind ?_ (fun _ => ?_)
set_option maxHeartbeats 8000000 in
theorem leb_Put.calls (k : Nat) (a0 : Int) (a1 : Int) (r1 : List Int) (r2 : Int) (w : World) (h : leb_Put.f k a0 a1 = some (r1, r2)) :
    Calls Try.prog 40 #[.int .i64 a0, .int .i64 a1] w fun e w' => ∃ v0_ : Value, e = .returned (.tuple #[v0_, .int .i64 r2]) ∧ Kd.R (Kd.int .u8) 5 w' w.heap.size (fun _ => True) v0_ r1 ∧ Below w.heap.size w w' := by
 have HB := am (Below.refl w.heap.size w)
 have H : ((leb_sized.f a1).bind fun t101 => (if t101 = true then (if a1 < 8 then (if 0 ≤ (wrap64 ((wrap64 (8 * a1)) - 1)) then (if a0 < (shl .i64 (-1) (wrap64 ((wrap64 (8 * a1)) - 1))) then (some (([] : List Int), 11)) else (if 0 ≤ (wrap64 (8 * a1)) then (if a0 ≥ (shl .i64 1 (wrap64 (8 * a1))) then (some (([] : List Int), 11)) else ((leb_low_uint64.f k (IntKind.u64.wrap (a0)) a1).bind fun t102 => (some (t102, 0)))) else (none))) else (none)) else ((leb_low_uint64.f k (IntKind.u64.wrap (a0)) a1).bind fun t105 => (some (t105, 0)))) else (some (([] : List Int), 1)))) = some (r1, r2) := h
 clear h
 replace H := Option.bind_eq_some_iff.mp H
 obtain ⟨t101, A30, H⟩ := H
 replace H : (if t101 = true then (if a1 < 8 then (if 0 ≤ (wrap64 ((wrap64 (8 * a1)) - 1)) then (if a0 < (shl .i64 (-1) (wrap64 ((wrap64 (8 * a1)) - 1))) then (some (([] : List Int), 11)) else (if 0 ≤ (wrap64 (8 * a1)) then (if a0 ≥ (shl .i64 1 (wrap64 (8 * a1))) then (some (([] : List Int), 11)) else ((leb_low_uint64.f k (IntKind.u64.wrap (a0)) a1).bind fun t102 => (some (t102, 0)))) else (none))) else (none)) else ((leb_low_uint64.f k (IntKind.u64.wrap (a0)) a1).bind fun t105 => (some (t105, 0)))) else (some (([] : List Int), 1))) = some (r1, r2) := H
 have A3 := am A30
 clear A30
 by_cases c4 : t101 = true
 rotate_left
 ·
  replace c4 := Bool.eq_false_iff.mpr c4
  subst c4
  replace H : (some (([] : List Int), 1)) = some (r1, r2) := by rw [if_neg (show ¬ (false = true) by decide)] at H; exact H
  simp only [Option.some.injEq, Prod.mk.injEq] at H
  obtain ⟨rfl, rfl⟩ := H
  go_enter Try.func40, Try.ntmps40
  go_wp2_with (first | ((with_reducible refine gate_callee (f := 66) rfl ?_); refine goesL_ (some 8) rfl rfl Try.func66 (by kernel_rfl) rfl #[.int .i64 a1] rfl (by simp only [ml]; try rfl) ?_; (with_reducible refine (leb_sized.calls a1 false _ A3.out).mono ?_); rintro e w' ⟨rfl, ⟨nd, rfl⟩⟩; refine ⟨_, rfl, ?_⟩))
  go_ret2
  exact ⟨_, rfl, by first | exact Kd.R_nil _ _ _ _ _ | exact Kd.N_nil _ _ _ _ _, by exact bl_g HB.out⟩
 subst c4
 replace H : (if a1 < 8 then (if 0 ≤ (wrap64 ((wrap64 (8 * a1)) - 1)) then (if a0 < (shl .i64 (-1) (wrap64 ((wrap64 (8 * a1)) - 1))) then (some (([] : List Int), 11)) else (if 0 ≤ (wrap64 (8 * a1)) then (if a0 ≥ (shl .i64 1 (wrap64 (8 * a1))) then (some (([] : List Int), 11)) else ((leb_low_uint64.f k (IntKind.u64.wrap (a0)) a1).bind fun t102 => (some (t102, 0)))) else (none))) else (none)) else ((leb_low_uint64.f k (IntKind.u64.wrap (a0)) a1).bind fun t105 => (some (t105, 0)))) = some (r1, r2) := by rw [if_pos rfl] at H; exact H
 by_cases c5 : a1 < 8
 rotate_left
 ·
  rw [if_neg c5] at H
  have c5b0 : decide (a1 < 8) = false := decide_eq_false c5
  clear c5
  replace H := Option.bind_eq_some_iff.mp H
  obtain ⟨t105, A160, H⟩ := H
  replace H : (some (t105, 0)) = some (r1, r2) := H
  have A16 := am A160
  clear A160
  simp only [Option.some.injEq, Prod.mk.injEq] at H
  obtain ⟨rfl, rfl⟩ := H
  go_enter Try.func40, Try.ntmps40
  go_wp2_with (first | ((with_reducible refine gate_callee (f := 66) rfl ?_); refine goesL_ (some 8) rfl rfl Try.func66 (by kernel_rfl) rfl #[.int .i64 a1] rfl (by simp only [ml]; try rfl) ?_; (with_reducible refine (leb_sized.calls a1 true _ A3.out).mono ?_); rintro e w' ⟨rfl, ⟨nd, rfl⟩⟩; refine ⟨_, rfl, ?_⟩) | ((with_reducible refine gate_callee (f := 67) rfl ?_); refine goesL_ (some 31) rfl rfl Try.func67 (by kernel_rfl) rfl #[.int .u64 (IntKind.u64.wrap (a0)), .int .i64 a1] rfl (by simp only [ml]; try rfl) ?_; (with_reducible refine (leb_low_uint64.calls k (IntKind.u64.wrap (a0)) a1 t105 _ A16.out).mono ?_); rintro e w17 ⟨v106, rfl, ho0, hb⟩; refine ⟨_, rfl, ?_⟩; refine mv2 (am (Kd.R_lower ho0 (below_size (by exact bl_o HB.out)))) (am (below_step (by exact bl_o HB.out) hb)) ?_; clear HB; intro HO107 HB))
  go_ret2
  exact ⟨_, rfl, by (with_reducible repeat (first | apply Kd.R_alloc | apply Kd.R_drewN | apply Kd.R_drew)); exact HO107.out, by exact bl_g HB.out⟩
 rw [if_pos c5] at H
 have c5b0 : decide (a1 < 8) = true := decide_eq_true c5
 clear c5
 obtain ⟨ji6, hji6⟩ : ∃ j_ : Int, (wrap64 ((wrap64 (8 * a1)) - 1)) = j_ := ⟨_, rfl⟩
 replace H : (if 0 ≤ (ji6) then (if a0 < (shl .i64 (-1) (ji6)) then (some (([] : List Int), 11)) else (if 0 ≤ (wrap64 (8 * a1)) then (if a0 ≥ (shl .i64 1 (wrap64 (8 * a1))) then (some (([] : List Int), 11)) else ((leb_low_uint64.f k (IntKind.u64.wrap (a0)) a1).bind fun t102 => (some (t102, 0)))) else (none))) else (none)) = some (r1, r2) := by first | (rw [hji6] at H; exact H) | (simp only [hji6] at H ⊢; exact H)
 (try rw [hji6] at A3)
 have hji6w : (IntKind.i64.wrap ((wrap64 (8 * a1)) - 1)) = ji6 := (i64_w _).trans hji6
 by_cases c7 : 0 ≤ (ji6)
 rotate_left
 ·
  rw [if_neg c7] at H
  exact absurd H (by simp)
 rw [if_pos c7] at H
 have c7b0 := eq_true c7
 have c7b1 : decide (0 ≤ (ji6)) = true := decide_eq_true c7
 clear c7
 obtain ⟨ji8, hji8⟩ : ∃ j_ : Int, (shl .i64 (-1) (ji6)) = j_ := ⟨_, rfl⟩
 replace H : (if a0 < (ji8) then (some (([] : List Int), 11)) else (if 0 ≤ (wrap64 (8 * a1)) then (if a0 ≥ (shl .i64 1 (wrap64 (8 * a1))) then (some (([] : List Int), 11)) else ((leb_low_uint64.f k (IntKind.u64.wrap (a0)) a1).bind fun t102 => (some (t102, 0)))) else (none))) = some (r1, r2) := by first | (rw [hji8] at H; exact H) | (simp only [hji8] at H ⊢; exact H)
 (try rw [hji8] at A3)
 have hji8_ : (IntKind.i64.wrap ((-1) * 2 ^ min (ji6).toNat 64)) = ji8 := hji8
 have hji8z : (ji6) ≤ 64 → (IntKind.i64.wrap ((-1) * 2 ^ (ji6).toNat)) = ji8 := shl_small hji8
 (try (have hji8n : (IntKind.i64.wrap (-2 ^ min (ji6).toNat 64)) = ji8 := (congrArg IntKind.i64.wrap (Int.neg_one_mul _).symm).trans hji8_))
 (try (have hji8m : (ji6) ≤ 64 → (IntKind.i64.wrap (-2 ^ (ji6).toNat)) = ji8 := fun hle_ => (congrArg IntKind.i64.wrap (Int.neg_one_mul _).symm).trans (hji8z hle_)))
 (try (have hji8ny : (wrap64 (-2 ^ min (ji6).toNat 64)) = ji8 := (i64_w _).symm.trans hji8n))
 (try (have hji8my : (ji6) ≤ 64 → (wrap64 (-2 ^ (ji6).toNat)) = ji8 := fun h_ => (i64_w _).symm.trans (hji8m h_)))
 have hji8y : (wrap64 ((-1) * 2 ^ min (ji6).toNat 64)) = ji8 := (i64_w _).symm.trans hji8_
 have hji8x : (ji6) ≤ 64 → (wrap64 ((-1) * 2 ^ (ji6).toNat)) = ji8 := fun h_ => (i64_w _).symm.trans (hji8z h_)
 by_cases c9 : a0 < (ji8)
 ·
  rw [if_pos c9] at H
  have c9b0 : decide (a0 < (ji8)) = true := decide_eq_true c9
  clear c9
  simp only [Option.some.injEq, Prod.mk.injEq] at H
  obtain ⟨rfl, rfl⟩ := H
  go_enter Try.func40, Try.ntmps40
  go_wp2_with (first | ((with_reducible refine gate_callee (f := 66) rfl ?_); refine goesL_ (some 8) rfl rfl Try.func66 (by kernel_rfl) rfl #[.int .i64 a1] rfl (by simp only [ml]; try rfl) ?_; (with_reducible refine (leb_sized.calls a1 true _ A3.out).mono ?_); rintro e w' ⟨rfl, ⟨nd, rfl⟩⟩; refine ⟨_, rfl, ?_⟩))
  go_ret2
  exact ⟨_, by first | rfl | (simp [errW_none, errW_some] <;> rfl) | (simp only [← hji6, ← hji8]; first | rfl | (simp [errW_none, errW_some] <;> rfl)) | (simp [*, errW_none, errW_some] <;> rfl), by first | exact Kd.R_nil _ _ _ _ _ | exact Kd.N_nil _ _ _ _ _, by exact bl_g HB.out⟩
 rw [if_neg c9] at H
 have c9b0 : decide (a0 < (ji8)) = false := decide_eq_false c9
 clear c9
 obtain ⟨ji10, hji10⟩ : ∃ j_ : Int, (wrap64 (8 * a1)) = j_ := ⟨_, rfl⟩
 replace H : (if 0 ≤ (ji10) then (if a0 ≥ (shl .i64 1 (ji10)) then (some (([] : List Int), 11)) else ((leb_low_uint64.f k (IntKind.u64.wrap (a0)) a1).bind fun t102 => (some (t102, 0)))) else (none)) = some (r1, r2) := by first | (rw [hji10] at H; exact H) | (simp only [hji10] at H ⊢; exact H)
 (try rw [hji10] at A3)
 have hji10w : (IntKind.i64.wrap (8 * a1)) = ji10 := (i64_w _).trans hji10
 (try (have hji10ji6 : (wrap64 (ji10 - 1)) = ji6 := by (rw [← hji10]; exact hji6)))
 (try (have hji10ji6w : (IntKind.i64.wrap (ji10 - 1)) = ji6 := (i64_w _).trans hji10ji6))
 by_cases c11 : 0 ≤ (ji10)
 rotate_left
 ·
  rw [if_neg c11] at H
  exact absurd H (by simp)
 rw [if_pos c11] at H
 have c11b0 := eq_true c11
 have c11b1 : decide (0 ≤ (ji10)) = true := decide_eq_true c11
 clear c11
 obtain ⟨ji12, hji12⟩ : ∃ j_ : Int, (shl .i64 1 (ji10)) = j_ := ⟨_, rfl⟩
 replace H : (if a0 ≥ (ji12) then (some (([] : List Int), 11)) else ((leb_low_uint64.f k (IntKind.u64.wrap (a0)) a1).bind fun t102 => (some (t102, 0)))) = some (r1, r2) := by first | (rw [hji12] at H; exact H) | (simp only [hji12] at H ⊢; exact H)
 (try rw [hji12] at A3)
 have hji12_ : (IntKind.i64.wrap (1 * 2 ^ min (ji10).toNat 64)) = ji12 := hji12
 have hji12z : (ji10) ≤ 64 → (IntKind.i64.wrap (1 * 2 ^ (ji10).toNat)) = ji12 := shl_small hji12
 have hji12u : (IntKind.i64.wrap (2 ^ min (ji10).toNat 64)) = ji12 := by have h_ := hji12_; rw [Int.one_mul] at h_; exact h_
 have hji12v : (ji10) ≤ 64 → (IntKind.i64.wrap (2 ^ (ji10).toNat)) = ji12 := fun hle_ => by have h_ := hji12z hle_; rw [Int.one_mul] at h_; exact h_
 have hji12y : (wrap64 (1 * 2 ^ min (ji10).toNat 64)) = ji12 := (i64_w _).symm.trans hji12_
 have hji12x : (ji10) ≤ 64 → (wrap64 (1 * 2 ^ (ji10).toNat)) = ji12 := fun h_ => (i64_w _).symm.trans (hji12z h_)
 by_cases c13 : a0 ≥ (ji12)
 ·
  rw [if_pos c13] at H
  have c13b0 : decide ((ji12) ≤ a0) = true := decide_eq_true c13
  clear c13
  simp only [Option.some.injEq, Prod.mk.injEq] at H
  obtain ⟨rfl, rfl⟩ := H
  go_enter Try.func40, Try.ntmps40
  go_wp2_with (first | ((with_reducible refine gate_callee (f := 66) rfl ?_); refine goesL_ (some 8) rfl rfl Try.func66 (by kernel_rfl) rfl #[.int .i64 a1] rfl (by simp only [ml]; try rfl) ?_; (with_reducible refine (leb_sized.calls a1 true _ A3.out).mono ?_); rintro e w' ⟨rfl, ⟨nd, rfl⟩⟩; refine ⟨_, rfl, ?_⟩))
  go_ret2
  exact ⟨_, by first | rfl | (simp [errW_none, errW_some] <;> rfl) | (simp only [← hji6, ← hji8, ← hji10, ← hji12]; first | rfl | (simp [errW_none, errW_some] <;> rfl)) | (simp [*, errW_none, errW_some] <;> rfl), by first | exact Kd.R_nil _ _ _ _ _ | exact Kd.N_nil _ _ _ _ _, by exact bl_g HB.out⟩
 rw [if_neg c13] at H
 have c13b0 : decide ((ji12) ≤ a0) = false := decide_eq_false c13
 clear c13
 replace H := Option.bind_eq_some_iff.mp H
 obtain ⟨t102, A140, H⟩ := H
 replace H : (some (t102, 0)) = some (r1, r2) := H
 have A14 := am A140
 clear A140
 simp only [Option.some.injEq, Prod.mk.injEq] at H
 obtain ⟨rfl, rfl⟩ := H
 go_enter Try.func40, Try.ntmps40
 go_wp2_with (first | ((with_reducible refine gate_callee (f := 66) rfl ?_); refine goesL_ (some 8) rfl rfl Try.func66 (by kernel_rfl) rfl #[.int .i64 a1] rfl (by simp only [ml]; try rfl) ?_; (with_reducible refine (leb_sized.calls a1 true _ A3.out).mono ?_); rintro e w' ⟨rfl, ⟨nd, rfl⟩⟩; refine ⟨_, rfl, ?_⟩) | ((with_reducible refine gate_callee (f := 67) rfl ?_); refine goesL_ (some 31) rfl rfl Try.func67 (by kernel_rfl) rfl #[.int .u64 (IntKind.u64.wrap (a0)), .int .i64 a1] rfl (by simp only [ml]; try rfl) ?_; (with_reducible refine (leb_low_uint64.calls k (IntKind.u64.wrap (a0)) a1 t102 _ A14.out).mono ?_); rintro e w15 ⟨v103, rfl, ho0, hb⟩; refine ⟨_, rfl, ?_⟩; refine mv2 (am (Kd.R_lower ho0 (below_size (by exact bl_o HB.out)))) (am (below_step (by exact bl_o HB.out) hb)) ?_; clear HB; intro HO104 HB))
 go_ret2
 exact ⟨_, by first | rfl | (simp [errW_none, errW_some] <;> rfl) | (simp only [← hji6, ← hji8, ← hji10, ← hji12]; first | rfl | (simp [errW_none, errW_some] <;> rfl)) | (simp [*, errW_none, errW_some] <;> rfl), by (with_reducible repeat (first | apply Kd.R_alloc | apply Kd.R_drewN | apply Kd.R_drew)); exact HO104.out, by exact bl_g HB.out⟩
mutual
def ehframe_Put.j0 : Nat → Int → Int → Bool → Option (List Int × Int)
  | 0, _, _, _ => none
  | k + 1, x1, x106000, x106001 => (ehframe_near.f k (([x1] : List Int))).bind fun t113 => (if t113 = true then (if x106001 = true then (ehframe_Put.j1 k x1 false x106000 x106001) else (ehframe_Put.j1 k x1 (decide (x1 < 0)) x106000 x106001)) else (ehframe_Put.j1 k x1 true x106000 x106001))
def ehframe_Put.j1 : Nat → Int → Bool → Int → Bool → Option (List Int × Int)
  | 0, _, _, _, _ => none
  | k + 1, x1, x52, x106000, x106001 => if x52 = true then (some (([] : List Int), 11)) else (if x106000 = 0 then (ehframe_Put.j2 k x1 x106001 x106000 x106001) else (ehframe_Put.j2 k x1 false x106000 x106001))
def ehframe_Put.j2 : Nat → Int → Bool → Int → Bool → Option (List Int × Int)
  | 0, _, _, _, _ => none
  | k + 1, x1, x53, x106000, x106001 => if x53 = true then ((leb_Sleb.f k x1).bind fun t114 => (some (t114, 0))) else (if x106000 = 0 then ((leb_Uleb.f k x1).bind fun t117 => (some (t117, 0))) else ((leb_Fits.f k x1 (wrap64 (8 * x106000)) x106001).bind fun t120 => (if t120 = true then ((leb_Put.f k x1 8).bind fun bt121 => (if 0 ≤ x106000 then (if x106000 ≤ (bt121.1.length : Int) then (some ((bt121.1.take (x106000 : Int).toNat), 0)) else (none)) else (none))) else (some (([] : List Int), 11)))))
end
def ehframe_Put.f (k : Nat) (a0 : Int) (a1 : Int) (a2 : Int) (a3 : Int) : Option (List Int × Int) := (ehframe_of.f a0).bind fun bt101 => (if bt101.2.2.2 = true then ((ehframe_near.f k (([a1, a2, a3] : List Int))).bind fun t109 => (if t109 = true then (if bt101.2.2.1 = 16 then (ehframe_Put.j0 k (wrap64 (a1 - a2)) bt101.1 bt101.2.1) else (if bt101.2.2.1 = 48 then (ehframe_Put.j0 k (wrap64 (a1 - a3)) bt101.1 bt101.2.1) else (ehframe_Put.j0 k a1 bt101.1 bt101.2.1))) else (some (([] : List Int), 11)))) else (some (([] : List Int), 140)))
theorem ehframe_Put.mono_l : ∀ k, (∀ y0 y1 y2, LeO (ehframe_Put.j0 k y0 y1 y2) (ehframe_Put.j0 (k + 1) y0 y1 y2)) ∧ (∀ y0 y1 y2 y3, LeO (ehframe_Put.j1 k y0 y1 y2 y3) (ehframe_Put.j1 (k + 1) y0 y1 y2 y3)) ∧ (∀ y0 y1 y2 y3, LeO (ehframe_Put.j2 k y0 y1 y2 y3) (ehframe_Put.j2 (k + 1) y0 y1 y2 y3))
  | 0 => ⟨fun _ _ _ r h => by simp [ehframe_Put.j0] at h, fun _ _ _ _ r h => by simp [ehframe_Put.j1] at h, fun _ _ _ _ r h => by simp [ehframe_Put.j2] at h⟩
  | k + 1 => by
    obtain ⟨ih0, ih1, ih2⟩ := ehframe_Put.mono_l k
    refine ⟨?_, ?_, ?_⟩
    · intro y0 y1 y2
      unfold ehframe_Put.j0
      repeat' first
      | (with_reducible exact ih0 _ _ _)
      | (with_reducible exact ih1 _ _ _ _)
      | (with_reducible exact ih2 _ _ _ _)
      | (with_reducible exact ehframe_near.mono _ _)
      | (with_reducible exact leb_Fits.mono _ _ _ _)
      | (with_reducible exact leb_Put.mono _ _ _)
      | (with_reducible exact leb_Sleb.mono _ _)
      | (with_reducible exact leb_Uleb.mono _ _)
      | (with_reducible exact LeO.refl _)
      | (with_reducible exact LeO.none _)
      | (with_reducible refine LeO.ite ?_ ?_)
      | (with_reducible refine LeO.bind ?_ (fun _ => ?_))
      | exact ih0 _ _ _
      | exact ih1 _ _ _ _
      | exact ih2 _ _ _ _
      | exact ehframe_near.mono _ _
      | exact leb_Fits.mono _ _ _ _
      | exact leb_Put.mono _ _ _
      | exact leb_Sleb.mono _ _
      | exact leb_Uleb.mono _ _
      | exact LeO.none _
      | refine LeO.ite ?_ ?_
      | refine LeO.bind ?_ (fun _ => ?_)
    · intro y0 y1 y2 y3
      unfold ehframe_Put.j1
      repeat' first
      | (with_reducible exact ih0 _ _ _)
      | (with_reducible exact ih1 _ _ _ _)
      | (with_reducible exact ih2 _ _ _ _)
      | (with_reducible exact ehframe_near.mono _ _)
      | (with_reducible exact leb_Fits.mono _ _ _ _)
      | (with_reducible exact leb_Put.mono _ _ _)
      | (with_reducible exact leb_Sleb.mono _ _)
      | (with_reducible exact leb_Uleb.mono _ _)
      | (with_reducible exact LeO.refl _)
      | (with_reducible exact LeO.none _)
      | (with_reducible refine LeO.ite ?_ ?_)
      | (with_reducible refine LeO.bind ?_ (fun _ => ?_))
      | exact ih0 _ _ _
      | exact ih1 _ _ _ _
      | exact ih2 _ _ _ _
      | exact ehframe_near.mono _ _
      | exact leb_Fits.mono _ _ _ _
      | exact leb_Put.mono _ _ _
      | exact leb_Sleb.mono _ _
      | exact leb_Uleb.mono _ _
      | exact LeO.none _
      | refine LeO.ite ?_ ?_
      | refine LeO.bind ?_ (fun _ => ?_)
    · intro y0 y1 y2 y3
      unfold ehframe_Put.j2
      repeat' first
      | (with_reducible exact ih0 _ _ _)
      | (with_reducible exact ih1 _ _ _ _)
      | (with_reducible exact ih2 _ _ _ _)
      | (with_reducible exact ehframe_near.mono _ _)
      | (with_reducible exact leb_Fits.mono _ _ _ _)
      | (with_reducible exact leb_Put.mono _ _ _)
      | (with_reducible exact leb_Sleb.mono _ _)
      | (with_reducible exact leb_Uleb.mono _ _)
      | (with_reducible exact LeO.refl _)
      | (with_reducible exact LeO.none _)
      | (with_reducible refine LeO.ite ?_ ?_)
      | (with_reducible refine LeO.bind ?_ (fun _ => ?_))
      | exact ih0 _ _ _
      | exact ih1 _ _ _ _
      | exact ih2 _ _ _ _
      | exact ehframe_near.mono _ _
      | exact leb_Fits.mono _ _ _ _
      | exact leb_Put.mono _ _ _
      | exact leb_Sleb.mono _ _
      | exact leb_Uleb.mono _ _
      | exact LeO.none _
      | refine LeO.ite ?_ ?_
      | refine LeO.bind ?_ (fun _ => ?_)
theorem ehframe_Put.mono : ∀ a0 a1 a2 a3 k, LeO (ehframe_Put.f k a0 a1 a2 a3) (ehframe_Put.f (k + 1) a0 a1 a2 a3) := by
 intro a0 a1 a2 a3 k
 obtain ⟨ih0, ih1, ih2⟩ := ehframe_Put.mono_l k
 unfold ehframe_Put.f
 repeat' first
     | (with_reducible exact ih0 _ _ _)
     | (with_reducible exact ih1 _ _ _ _)
     | (with_reducible exact ih2 _ _ _ _)
     | (with_reducible exact ehframe_near.mono _ _)
     | (with_reducible exact leb_Fits.mono _ _ _ _)
     | (with_reducible exact leb_Put.mono _ _ _)
     | (with_reducible exact leb_Sleb.mono _ _)
     | (with_reducible exact leb_Uleb.mono _ _)
     | (with_reducible exact LeO.refl _)
     | (with_reducible exact LeO.none _)
     | (with_reducible refine LeO.ite ?_ ?_)
     | (with_reducible refine LeO.bind ?_ (fun _ => ?_))
     | exact ih0 _ _ _
     | exact ih1 _ _ _ _
     | exact ih2 _ _ _ _
     | exact ehframe_near.mono _ _
     | exact leb_Fits.mono _ _ _ _
     | exact leb_Put.mono _ _ _
     | exact leb_Sleb.mono _ _
     | exact leb_Uleb.mono _ _
     | exact LeO.none _
     | refine LeO.ite ?_ ?_
     | refine LeO.bind ?_ (fun _ => ?_)
set_option maxHeartbeats 8000000 in
theorem ehframe_Put.calls (k : Nat) (a0 : Int) (a1 : Int) (a2 : Int) (a3 : Int) (r1 : List Int) (r2 : Int) (w : World) (h : ehframe_Put.f k a0 a1 a2 a3 = some (r1, r2)) :
    Calls Try.prog 16 #[.int .i64 a0, .int .i64 a1, .int .i64 a2, .int .i64 a3] w fun e w' => ∃ v0_ : Value, e = .returned (.tuple #[v0_, .int .i64 r2]) ∧ Kd.R (Kd.int .u8) 5 w' w.heap.size (fun _ => True) v0_ r1 ∧ Below w.heap.size w w' := by
 have hu76 := Try.underlying76
 have HB := am (Below.refl w.heap.size w)
 have H : ((ehframe_of.f a0).bind fun bt101 => (if bt101.2.2.2 = true then ((ehframe_near.f k (([a1, a2, a3] : List Int))).bind fun t109 => (if t109 = true then (if bt101.2.2.1 = 16 then (ehframe_Put.j0 k (wrap64 (a1 - a2)) bt101.1 bt101.2.1) else (if bt101.2.2.1 = 48 then (ehframe_Put.j0 k (wrap64 (a1 - a3)) bt101.1 bt101.2.1) else (ehframe_Put.j0 k a1 bt101.1 bt101.2.1))) else (some (([] : List Int), 11)))) else (some (([] : List Int), 140)))) = some (r1, r2) := h
 clear h
 replace H := Option.bind_eq_some_iff.mp H
 obtain ⟨⟨t101, t102, t103, t104⟩, A50, H⟩ := H
 replace H : (if t104 = true then ((ehframe_near.f k (([a1, a2, a3] : List Int))).bind fun t109 => (if t109 = true then (if t103 = 16 then (ehframe_Put.j0 k (wrap64 (a1 - a2)) t101 t102) else (if t103 = 48 then (ehframe_Put.j0 k (wrap64 (a1 - a3)) t101 t102) else (ehframe_Put.j0 k a1 t101 t102))) else (some (([] : List Int), 11)))) else (some (([] : List Int), 140))) = some (r1, r2) := H
 have A5 := am A50
 clear A50
 by_cases c6 : t104 = true
 rotate_left
 ·
  replace c6 := Bool.eq_false_iff.mpr c6
  subst c6
  replace H : (some (([] : List Int), 140)) = some (r1, r2) := by rw [if_neg (show ¬ (false = true) by decide)] at H; exact H
  simp only [Option.some.injEq, Prod.mk.injEq] at H
  obtain ⟨rfl, rfl⟩ := H
  go_enter Try.func16, Try.ntmps16
  go_wp2_with (first | ((with_reducible refine gate_callee (f := 29) rfl ?_); refine goesL_ (some 17) rfl rfl Try.func29 (by kernel_rfl) rfl #[.int .i64 a0] rfl (by simp only [ml]; try rfl) ?_; (with_reducible refine (ehframe_of.calls a0 t101 t102 t103 false _ A5.out).mono ?_); rintro e w62 ⟨rfl, hb⟩; refine ⟨_, rfl, ?_⟩; have n0_ := am (below_step (by exact bl_o HB.out) hb); clear HB; have HB := n0_; clear n0_) | ((with_reducible refine gate_dst (N := 10) rfl ?_); refine box_event ?hg (N := 10) ?hd (cs := #[.int .i64 0, .bool false]) (t := 76) ?hr ?_; (case hd => rfl); (case hg => rfl); (case hr => go_simp; try rfl); intro gb105 hg w63 hbox hb; refine mv3 (am (below_step (by exact bl_o HB.out) hb)) (am (hbox)) (lei (by rw [hg]; exact (below_size (by exact bl_o HB.out)) : w.heap.size ≤ gb105)) ?_; clear HB; intro HB BK105 GW105; have GE105 := GW105; clear hb hbox hg; obtain ⟨hcz64_0, hcz64_1, hfz64_0, hfz64_1⟩ := cells2 BK105.out))
  go_ret2
  exact ⟨_, rfl, by first | exact Kd.R_nil _ _ _ _ _ | exact Kd.N_nil _ _ _ _ _, by exact bl_g HB.out⟩
 subst c6
 replace H : ((ehframe_near.f k (([a1, a2, a3] : List Int))).bind fun t109 => (if t109 = true then (if t103 = 16 then (ehframe_Put.j0 k (wrap64 (a1 - a2)) t101 t102) else (if t103 = 48 then (ehframe_Put.j0 k (wrap64 (a1 - a3)) t101 t102) else (ehframe_Put.j0 k a1 t101 t102))) else (some (([] : List Int), 11)))) = some (r1, r2) := by rw [if_pos rfl] at H; exact H
 obtain ⟨y106, hy106⟩ : ∃ y_ : List Int, y_ = (([a1, a2, a3] : List Int)) := ⟨_, rfl⟩
 replace H : ((ehframe_near.f k y106).bind fun t109 => (if t109 = true then (if t103 = 16 then (ehframe_Put.j0 k (wrap64 (a1 - a2)) t101 t102) else (if t103 = 48 then (ehframe_Put.j0 k (wrap64 (a1 - a3)) t101 t102) else (ehframe_Put.j0 k a1 t101 t102))) else (some (([] : List Int), 11)))) = some (r1, r2) := by first | (rw [hy106]; with_reducible exact H) | (have H2_ := (Option.bind_some _ _).symm.trans H; rw [hy106]; with_reducible exact H2_)
 have Ny106 := am hy106
 clear hy106
 replace H := Option.bind_eq_some_iff.mp H
 obtain ⟨t109, A70, H⟩ := H
 replace H : (if t109 = true then (if t103 = 16 then (ehframe_Put.j0 k (wrap64 (a1 - a2)) t101 t102) else (if t103 = 48 then (ehframe_Put.j0 k (wrap64 (a1 - a3)) t101 t102) else (ehframe_Put.j0 k a1 t101 t102))) else (some (([] : List Int), 11))) = some (r1, r2) := H
 have A7 := am A70
 clear A70
 by_cases c8 : t109 = true
 rotate_left
 ·
  replace c8 := Bool.eq_false_iff.mpr c8
  subst c8
  replace H : (some (([] : List Int), 11)) = some (r1, r2) := by rw [if_neg (show ¬ (false = true) by decide)] at H; exact H
  simp only [Option.some.injEq, Prod.mk.injEq] at H
  obtain ⟨rfl, rfl⟩ := H
  go_enter Try.func16, Try.ntmps16
  go_wp2_with (first | ((with_reducible refine gate_callee (f := 29) rfl ?_); refine goesL_ (some 17) rfl rfl Try.func29 (by kernel_rfl) rfl #[.int .i64 a0] rfl (by simp only [ml]; try rfl) ?_; (with_reducible refine (ehframe_of.calls a0 t101 t102 t103 true _ A5.out).mono ?_); rintro e w56 ⟨rfl, hb⟩; refine ⟨_, rfl, ?_⟩; have n0_ := am (below_step (by exact bl_o HB.out) hb); clear HB; have HB := n0_; clear n0_) | ((with_reducible refine gate_dst (N := 10) rfl ?_); refine box_event ?hg (N := 10) ?hd (cs := #[.int .i64 0, .bool false]) (t := 76) ?hr ?_; (case hd => rfl); (case hg => rfl); (case hr => go_simp; try rfl); intro gb105 hg w57 hbox hb; refine mv3 (am (below_step (by exact bl_o HB.out) hb)) (am (hbox)) (lei (by rw [hg]; exact (below_size (by exact bl_o HB.out)) : w.heap.size ≤ gb105)) ?_; clear HB; intro HB BK105 GW105; have GE105 := GW105; clear hb hbox hg; obtain ⟨hcz58_0, hcz58_1, hfz58_0, hfz58_1⟩ := cells2 BK105.out) | ((with_reducible refine gate_dst (N := 26) rfl ?_); refine Kd.R_lit (Kd.int .i64) _ 3 ?hg (N := 26) ?hd (xs := ([a1, a2, a3] : List Int)) (inner := [.int .i64 a1, .int .i64 a2, .int .i64 a3]) (ok := fun _ => True) (okp := fun _ => True) ?hr ?hp (fun _ hk => hk) trivial (Below.refl _ _) (Nat.le_refl _) (by simp) ?_; (case hd => rfl); (case hg => rfl); (case hr => go_simp; try rfl); (case hp => exact (Reps.one (show Kd.M (Kd.int .i64) _ _ _ a1 [.int .i64 a1] from rfl) (Reps.one (show Kd.M (Kd.int .i64) _ _ _ a2 [.int .i64 a2] from rfl) (Reps.one (show Kd.M (Kd.int .i64) _ _ _ a3 [.int .i64 a3] from rfl) (Reps.none _ _))))); intro v107 w59 ho60 hb hg_ hnew_; clear hg_ hnew_; (first | rw [← Ny106.out] at ho60 | (simp only [Int.reduceToNat] at ho60; rw [← Ny106.out] at ho60)); refine mv3 (am (Kd.R_lower ho60 (below_size (by exact bl_g HB.out)))) (am (blk_below (g := gb105) (o := .cells #[.int .i64 t101, .bool t102] 76 (0, 0)) (bps BK105.out rfl) hb)) (am (below_step (by exact bl_g HB.out) hb)) ?_; clear BK105 HB; intro HO108 BK105 HB; clear hb ho60; obtain ⟨Ao61, co61, eo61⟩ := Kd.R_slice HO108.out; subst eo61) | ((with_reducible refine gate_callee (f := 30) rfl ?_); refine goesL_ (some 27) rfl rfl Try.func30 (by kernel_rfl) rfl #[.slice Ao61 y106.length co61] rfl (by simp only [ml]; try rfl) ?_; (with_reducible refine (ehframe_near.calls k _ _ y106 false _ ?side1 ?side2 A7.out).mono ?_); (case side1 => exact Kd.C_o ((Kd.R_reads' HO108.out).2.2)); (case side2 => exact (Kd.R_reads' HO108.out).2.1); rintro e w' ⟨rfl, ⟨nd, rfl⟩⟩; refine ⟨_, rfl, ?_⟩))
  go_ret2
  exact ⟨_, rfl, by first | exact Kd.R_nil _ _ _ _ _ | exact Kd.N_nil _ _ _ _ _, by exact bl_g HB.out⟩
 subst c8
 replace H : (if t103 = 16 then (ehframe_Put.j0 k (wrap64 (a1 - a2)) t101 t102) else (if t103 = 48 then (ehframe_Put.j0 k (wrap64 (a1 - a3)) t101 t102) else (ehframe_Put.j0 k a1 t101 t102))) = some (r1, r2) := by rw [if_pos rfl] at H; exact H
 have HC9 := am H
 clear H
 go_enter Try.func16, Try.ntmps16
 go_upto_block 0 with (first | ((with_reducible refine gate_callee (f := 29) rfl ?_); refine goesL_ (some 17) rfl rfl Try.func29 (by kernel_rfl) rfl #[.int .i64 a0] rfl (by simp only [ml]; try rfl) ?_; (with_reducible refine (ehframe_of.calls a0 t101 t102 t103 true _ A5.out).mono ?_); rintro e w10 ⟨rfl, hb⟩; refine ⟨_, rfl, ?_⟩; have n0_ := am (below_step (by exact bl_o HB.out) hb); clear HB; have HB := n0_; clear n0_) | ((with_reducible refine gate_dst (N := 10) rfl ?_); refine box_event ?hg (N := 10) ?hd (cs := #[.int .i64 0, .bool false]) (t := 76) ?hr ?_; (case hd => rfl); (case hg => rfl); (case hr => go_simp; try rfl); intro gb105 hg w11 hbox hb; refine mv3 (am (below_step (by exact bl_o HB.out) hb)) (am (hbox)) (lei (by rw [hg]; exact (below_size (by exact bl_o HB.out)) : w.heap.size ≤ gb105)) ?_; clear HB; intro HB BK105 GW105; have GE105 := GW105; clear hb hbox hg; obtain ⟨hcz12_0, hcz12_1, hfz12_0, hfz12_1⟩ := cells2 BK105.out) | ((with_reducible refine gate_dst (N := 26) rfl ?_); refine Kd.R_lit (Kd.int .i64) _ 3 ?hg (N := 26) ?hd (xs := ([a1, a2, a3] : List Int)) (inner := [.int .i64 a1, .int .i64 a2, .int .i64 a3]) (ok := fun _ => True) (okp := fun _ => True) ?hr ?hp (fun _ hk => hk) trivial (Below.refl _ _) (Nat.le_refl _) (by simp) ?_; (case hd => rfl); (case hg => rfl); (case hr => go_simp; try rfl); (case hp => exact (Reps.one (show Kd.M (Kd.int .i64) _ _ _ a1 [.int .i64 a1] from rfl) (Reps.one (show Kd.M (Kd.int .i64) _ _ _ a2 [.int .i64 a2] from rfl) (Reps.one (show Kd.M (Kd.int .i64) _ _ _ a3 [.int .i64 a3] from rfl) (Reps.none _ _))))); intro v107 w13 ho14 hb hg_ hnew_; clear hg_ hnew_; (first | rw [← Ny106.out] at ho14 | (simp only [Int.reduceToNat] at ho14; rw [← Ny106.out] at ho14)); refine mv3 (am (Kd.R_lower ho14 (below_size (by exact bl_g HB.out)))) (am (blk_below (g := gb105) (o := .cells #[.int .i64 t101, .bool t102] 76 (0, 0)) (bps BK105.out rfl) hb)) (am (below_step (by exact bl_g HB.out) hb)) ?_; clear BK105 HB; intro HO108 BK105 HB; clear hb ho14; obtain ⟨Ao15, co15, eo15⟩ := Kd.R_slice HO108.out; subst eo15) | ((with_reducible refine gate_callee (f := 30) rfl ?_); refine goesL_ (some 27) rfl rfl Try.func30 (by kernel_rfl) rfl #[.slice Ao15 y106.length co15] rfl (by simp only [ml]; try rfl) ?_; (with_reducible refine (ehframe_near.calls k _ _ y106 true _ ?side1 ?side2 A7.out).mono ?_); (case side1 => exact Kd.C_o ((Kd.R_reads' HO108.out).2.2)); (case side2 => exact (Kd.R_reads' HO108.out).2.1); rintro e w' ⟨rfl, ⟨nd, rfl⟩⟩; refine ⟨_, rfl, ?_⟩))
 (try simp only [Act.put, List.setIfInBounds_toArray, List.set_cons_zero, List.set_cons_succ])
 go_cut [1] (fun v1 wc => ∃ (kq : Nat) (x1_8 : Int), v1 = .int .i64 x1_8 ∧ Aside0 (ehframe_Put.j0 kq x1_8 t101 t102 = some (r1, r2)) ∧ Aside0 (kq ≤ k) ∧ Aside0 (wc.heap[gb105]? = some (.cells #[.int .i64 t101, .bool t102] 76 (0, 0))) ∧ Aside0 (Below w.heap.size w wc))
 case first =>
  have H := HC9.out
  clear HC9
  by_cases c16 : t103 = 16
  ·
   rw [if_pos c16] at H
   have c16b0 : (t103 == 16) = true := beq_iff_eq.mpr c16
   have c16b1 : (t103 != 16) = false := bne_eq_false_iff_eq.mpr c16
   clear c16
   (first | rw [c16b0] | (simp only [i64_w, i32_w]; rw [c16b0]) | skip)
   have H' := am H
   clear H
   go_wp2
   go_meet
   case rel => exact ⟨_, (wrap64 (a1 - a2)), (by first | rfl | (simp; done) | (simp [*]; done)), H', ⟨by first | omega | exact Nat.le_refl _⟩, ⟨by (with_reducible repeat (first | refine blk_drewN ?_ _ | refine blk_drew ?_ | refine blk_alloc ?_ _)); exact BK105.out⟩, ⟨by exact bl_g HB.out⟩⟩
  rw [if_neg c16] at H
  have c16b0 : (t103 == 16) = false := beq_eq_false_iff_ne.mpr c16
  have c16b1 : (t103 != 16) = true := bne_iff_ne.mpr c16
  (first | rw [c16b0] | (simp only [i64_w, i32_w]; rw [c16b0]) | skip)
  by_cases c17 : t103 = 48
  ·
   rw [if_pos c17] at H
   have c17b0 : (t103 == 48) = true := beq_iff_eq.mpr c17
   have c17b1 : (t103 != 48) = false := bne_eq_false_iff_eq.mpr c17
   clear c17
   have H' := am H
   clear H
   go_wp2
   go_meet
   case rel => exact ⟨_, (wrap64 (a1 - a3)), (by first | rfl | (simp; done) | (simp [*]; done)), H', ⟨by first | omega | exact Nat.le_refl _⟩, ⟨by (with_reducible repeat (first | refine blk_drewN ?_ _ | refine blk_drew ?_ | refine blk_alloc ?_ _)); exact BK105.out⟩, ⟨by exact bl_g HB.out⟩⟩
  rw [if_neg c17] at H
  have c17b0 : (t103 == 48) = false := beq_eq_false_iff_ne.mpr c17
  have c17b1 : (t103 != 48) = true := bne_iff_ne.mpr c17
  have H' := am H
  clear H
  go_wp2
  go_meet
  case rel => exact ⟨_, (a1), (by first | rfl | (simp; done) | (simp [*]; done)), H', ⟨by first | omega | exact Nat.le_refl _⟩, ⟨by (with_reducible repeat (first | refine blk_drewN ?_ _ | refine blk_drew ?_ | refine blk_alloc ?_ _)); exact BK105.out⟩, ⟨by exact bl_g HB.out⟩⟩
 case rest =>
  clear HC9
  try clear c1
  try clear c2
  try clear p2
  try clear c3
  try clear c6
  try clear p6
  try clear c8
  try clear c16
  try clear c16b0
  try clear c16b1
  try clear c17
  try clear c17b0
  try clear c17b1
  try clear hcz12_0
  try clear hcz12_1
  try clear hfz12_0
  try clear hfz12_1
  obtain ⟨kq, x1_8, rfl, HA, HJ8, BK105, HB⟩ := hcut
  cases kq with
  | zero => exact absurd HA.out (by simp [ehframe_Put.j0])
  | succ kj8 =>
   have H := HA.out
   clear HA
   simp only [ehframe_Put.j0] at H
   have HC18 := am H
   clear H
   go_upto_region 11 with (fail)
   go_cut [52] (fun v52 wc => ∃ (kq : Nat) (x52_17 : Bool), v52 = .bool x52_17 ∧ Aside0 (ehframe_Put.j1 kq x1_8 x52_17 t101 t102 = some (r1, r2)) ∧ Aside0 (kq ≤ kj8) ∧ Aside0 (wc.heap[gb105]? = some (.cells #[.int .i64 t101, .bool t102] 76 (0, 0))) ∧ Aside0 (Below w.heap.size w wc))
   case first =>
    have H := HC18.out
    clear HC18
    obtain ⟨y110, hy110⟩ : ∃ y_ : List Int, y_ = (([x1_8] : List Int)) := ⟨_, rfl⟩
    replace H : ((ehframe_near.f kj8 y110).bind fun t113 => (if t113 = true then (if t102 = true then (ehframe_Put.j1 kj8 x1_8 false t101 t102) else (ehframe_Put.j1 kj8 x1_8 (decide (x1_8 < 0)) t101 t102)) else (ehframe_Put.j1 kj8 x1_8 true t101 t102))) = some (r1, r2) := by first | (rw [hy110]; with_reducible exact H) | (have H2_ := (Option.bind_some _ _).symm.trans H; rw [hy110]; with_reducible exact H2_)
    have Ny110 := am hy110
    clear hy110
    replace H := Option.bind_eq_some_iff.mp H
    obtain ⟨t113, A190, H⟩ := H
    replace H : (if t113 = true then (if t102 = true then (ehframe_Put.j1 kj8 x1_8 false t101 t102) else (ehframe_Put.j1 kj8 x1_8 (decide (x1_8 < 0)) t101 t102)) else (ehframe_Put.j1 kj8 x1_8 true t101 t102)) = some (r1, r2) := H
    have A19 := am A190
    clear A190
    by_cases c20 : t113 = true
    rotate_left
    ·
     replace c20 := Bool.eq_false_iff.mpr c20
     subst c20
     replace H : (ehframe_Put.j1 kj8 x1_8 true t101 t102) = some (r1, r2) := by rw [if_neg (show ¬ (false = true) by decide)] at H; exact H
     have H' := am H
     clear H
     go_wp2_with (first | ((with_reducible refine gate_dst (N := 41) rfl ?_); refine Kd.R_lit (Kd.int .i64) _ 3 ?hg (N := 41) ?hd (xs := ([x1_8] : List Int)) (inner := [.int .i64 x1_8]) (ok := fun _ => True) (okp := fun _ => True) ?hr ?hp (fun _ hk => hk) trivial (Below.refl _ _) (Nat.le_refl _) (by simp) ?_; (case hd => rfl); (case hg => rfl); (case hr => go_simp; try rfl); (case hp => exact (Reps.one (show Kd.M (Kd.int .i64) _ _ _ x1_8 [.int .i64 x1_8] from rfl) (Reps.none _ _))); intro v111 w30 ho31 hb hg_ hnew_; clear hg_ hnew_; (first | rw [← Ny110.out] at ho31 | (simp only [Int.reduceToNat] at ho31; rw [← Ny110.out] at ho31)); refine mv3 (am (Kd.R_lower ho31 (below_size (by exact bl_g HB.out)))) (am (blk_below (blk_o BK105.out) hb)) (am (below_step (by exact bl_g HB.out) hb)) ?_; clear BK105 HB; intro HO112 BK105 HB; clear hb ho31; obtain ⟨Ao32, co32, eo32⟩ := Kd.R_slice HO112.out; subst eo32) | ((with_reducible refine gate_callee (f := 30) rfl ?_); refine goesL_ (some 42) rfl rfl Try.func30 (by kernel_rfl) rfl #[.slice Ao32 y110.length co32] rfl (by simp only [ml]; try rfl) ?_; (with_reducible refine (ehframe_near.calls kj8 _ _ y110 false _ ?side1 ?side2 A19.out).mono ?_); (case side1 => exact Kd.C_o ((Kd.R_reads' HO112.out).2.2)); (case side2 => exact (Kd.R_reads' HO112.out).2.1); rintro e w' ⟨rfl, ⟨nd, rfl⟩⟩; refine ⟨_, rfl, ?_⟩))
     go_meet
     case rel => exact ⟨_, (true), (by first | rfl | (simp; done) | (simp [*]; done)), H', ⟨by have := HJ8.out; first | omega | exact Nat.le_refl _⟩, ⟨by (with_reducible repeat (first | refine blk_drewN ?_ _ | refine blk_drew ?_ | refine blk_alloc ?_ _)); exact BK105.out⟩, ⟨by exact bl_g HB.out⟩⟩
    subst c20
    replace H : (if t102 = true then (ehframe_Put.j1 kj8 x1_8 false t101 t102) else (ehframe_Put.j1 kj8 x1_8 (decide (x1_8 < 0)) t101 t102)) = some (r1, r2) := by rw [if_pos rfl] at H; exact H
    by_cases c21 : t102 = true
    ·
     subst c21
     replace H : (ehframe_Put.j1 kj8 x1_8 false t101 true) = some (r1, r2) := by rw [if_pos rfl] at H; exact H
     have H' := am H
     clear H
     go_wp2_with (first | ((with_reducible refine gate_dst (N := 41) rfl ?_); refine Kd.R_lit (Kd.int .i64) _ 3 ?hg (N := 41) ?hd (xs := ([x1_8] : List Int)) (inner := [.int .i64 x1_8]) (ok := fun _ => True) (okp := fun _ => True) ?hr ?hp (fun _ hk => hk) trivial (Below.refl _ _) (Nat.le_refl _) (by simp) ?_; (case hd => rfl); (case hg => rfl); (case hr => go_simp; try rfl); (case hp => exact (Reps.one (show Kd.M (Kd.int .i64) _ _ _ x1_8 [.int .i64 x1_8] from rfl) (Reps.none _ _))); intro v111 w22 ho23 hb hg_ hnew_; clear hg_ hnew_; (first | rw [← Ny110.out] at ho23 | (simp only [Int.reduceToNat] at ho23; rw [← Ny110.out] at ho23)); refine mv3 (am (Kd.R_lower ho23 (below_size (by exact bl_g HB.out)))) (am (blk_below (blk_o BK105.out) hb)) (am (below_step (by exact bl_g HB.out) hb)) ?_; clear BK105 HB; intro HO112 BK105 HB; clear hb ho23; obtain ⟨Ao24, co24, eo24⟩ := Kd.R_slice HO112.out; subst eo24) | ((with_reducible refine gate_callee (f := 30) rfl ?_); refine goesL_ (some 42) rfl rfl Try.func30 (by kernel_rfl) rfl #[.slice Ao24 y110.length co24] rfl (by simp only [ml]; try rfl) ?_; (with_reducible refine (ehframe_near.calls kj8 _ _ y110 true _ ?side1 ?side2 A19.out).mono ?_); (case side1 => exact Kd.C_o ((Kd.R_reads' HO112.out).2.2)); (case side2 => exact (Kd.R_reads' HO112.out).2.1); rintro e w' ⟨rfl, ⟨nd, rfl⟩⟩; refine ⟨_, rfl, ?_⟩; obtain ⟨hcz25_0, hcz25_1, hfz25_0, hfz25_1⟩ := cells2 BK105.out))
     go_meet
     case rel => exact ⟨_, (false), (by first | rfl | (simp; done) | (simp [*]; done)), H', ⟨by have := HJ8.out; first | omega | exact Nat.le_refl _⟩, ⟨by (with_reducible repeat (first | refine blk_drewN ?_ _ | refine blk_drew ?_ | refine blk_alloc ?_ _)); exact BK105.out⟩, ⟨by exact bl_g HB.out⟩⟩
    replace c21 := Bool.eq_false_iff.mpr c21
    subst c21
    replace H : (ehframe_Put.j1 kj8 x1_8 (decide (x1_8 < 0)) t101 false) = some (r1, r2) := by rw [if_neg (show ¬ (false = true) by decide)] at H; exact H
    have H' := am H
    clear H
    go_wp2_with (first | ((with_reducible refine gate_dst (N := 41) rfl ?_); refine Kd.R_lit (Kd.int .i64) _ 3 ?hg (N := 41) ?hd (xs := ([x1_8] : List Int)) (inner := [.int .i64 x1_8]) (ok := fun _ => True) (okp := fun _ => True) ?hr ?hp (fun _ hk => hk) trivial (Below.refl _ _) (Nat.le_refl _) (by simp) ?_; (case hd => rfl); (case hg => rfl); (case hr => go_simp; try rfl); (case hp => exact (Reps.one (show Kd.M (Kd.int .i64) _ _ _ x1_8 [.int .i64 x1_8] from rfl) (Reps.none _ _))); intro v111 w26 ho27 hb hg_ hnew_; clear hg_ hnew_; (first | rw [← Ny110.out] at ho27 | (simp only [Int.reduceToNat] at ho27; rw [← Ny110.out] at ho27)); refine mv3 (am (Kd.R_lower ho27 (below_size (by exact bl_g HB.out)))) (am (blk_below (blk_o BK105.out) hb)) (am (below_step (by exact bl_g HB.out) hb)) ?_; clear BK105 HB; intro HO112 BK105 HB; clear hb ho27; obtain ⟨Ao28, co28, eo28⟩ := Kd.R_slice HO112.out; subst eo28) | ((with_reducible refine gate_callee (f := 30) rfl ?_); refine goesL_ (some 42) rfl rfl Try.func30 (by kernel_rfl) rfl #[.slice Ao28 y110.length co28] rfl (by simp only [ml]; try rfl) ?_; (with_reducible refine (ehframe_near.calls kj8 _ _ y110 true _ ?side1 ?side2 A19.out).mono ?_); (case side1 => exact Kd.C_o ((Kd.R_reads' HO112.out).2.2)); (case side2 => exact (Kd.R_reads' HO112.out).2.1); rintro e w' ⟨rfl, ⟨nd, rfl⟩⟩; refine ⟨_, rfl, ?_⟩; obtain ⟨hcz29_0, hcz29_1, hfz29_0, hfz29_1⟩ := cells2 BK105.out))
    go_meet
    case rel => exact ⟨_, (decide (x1_8 < 0)), (by first | rfl | (simp; done) | (simp [*]; done)), H', ⟨by have := HJ8.out; first | omega | exact Nat.le_refl _⟩, ⟨by (with_reducible repeat (first | refine blk_drewN ?_ _ | refine blk_drew ?_ | refine blk_alloc ?_ _)); exact BK105.out⟩, ⟨by exact bl_g HB.out⟩⟩
   case rest =>
    clear HC18
    try clear c1
    try clear c2
    try clear p2
    try clear c3
    try clear c6
    try clear p6
    try clear c8
    try clear c16
    try clear c16b0
    try clear c16b1
    try clear c17
    try clear c17b0
    try clear c17b1
    try clear c20
    try clear c21
    try clear c29
    try clear c30
    try clear hcz12_0
    try clear hcz12_1
    try clear hcz25_0
    try clear hcz25_1
    try clear hcz29_0
    try clear hcz29_1
    try clear hfz12_0
    try clear hfz12_1
    try clear hfz25_0
    try clear hfz25_1
    try clear hfz29_0
    try clear hfz29_1
    try clear p2
    try clear p6
    obtain ⟨kq, x52_17, rfl, HA, HJ17, BK105, HB⟩ := hcut
    cases kq with
    | zero => exact absurd HA.out (by simp [ehframe_Put.j1])
    | succ kj17 =>
     have H := HA.out
     clear HA
     simp only [ehframe_Put.j1] at H
     by_cases c33 : x52_17 = true
     ·
      subst c33
      replace H : (some (([] : List Int), 11)) = some (r1, r2) := by rw [if_pos rfl] at H; exact H
      simp only [Option.some.injEq, Prod.mk.injEq] at H
      obtain ⟨rfl, rfl⟩ := H
      go_wp2
      go_ret2
      exact ⟨_, rfl, by first | exact Kd.R_nil _ _ _ _ _ | exact Kd.N_nil _ _ _ _ _, by exact bl_g HB.out⟩
     replace c33 := Bool.eq_false_iff.mpr c33
     subst c33
     replace H : (if t101 = 0 then (ehframe_Put.j2 kj17 x1_8 t102 t101 t102) else (ehframe_Put.j2 kj17 x1_8 false t101 t102)) = some (r1, r2) := by rw [if_neg (show ¬ (false = true) by decide)] at H; exact H
     have HC34 := am H
     clear H
     go_upto_region 13 with (fail)
     go_cut [53] (fun v53 wc => ∃ (kq : Nat) (x53_33 : Bool), v53 = .bool x53_33 ∧ Aside0 (ehframe_Put.j2 kq x1_8 x53_33 t101 t102 = some (r1, r2)) ∧ Aside0 (kq ≤ kj17) ∧ Aside0 (wc.heap[gb105]? = some (.cells #[.int .i64 t101, .bool t102] 76 (0, 0))) ∧ Aside0 (Below w.heap.size w wc))
     case first =>
      have H := HC34.out
      clear HC34
      by_cases c35 : t101 = 0
      ·
       rw [if_pos c35] at H
       have c35b0 : (t101 == 0) = true := beq_iff_eq.mpr c35
       have c35b1 : (t101 != 0) = false := bne_eq_false_iff_eq.mpr c35
       clear c35
       (first | rw [c35b0] | (simp only [i64_w, i32_w]; rw [c35b0]) | skip)
       have H' := am H
       clear H
       obtain ⟨hcz36_0, hcz36_1, hfz36_0, hfz36_1⟩ := cells2 BK105.out
       go_wp2
       go_meet
       case rel => exact ⟨_, (t102), (by first | rfl | (simp; done) | (simp [*]; done)), H', ⟨by have := HJ8.out; have := HJ17.out; first | omega | exact Nat.le_refl _⟩, ⟨by (with_reducible repeat (first | refine blk_drewN ?_ _ | refine blk_drew ?_ | refine blk_alloc ?_ _)); exact BK105.out⟩, ⟨by exact bl_g HB.out⟩⟩
      rw [if_neg c35] at H
      have c35b0 : (t101 == 0) = false := beq_eq_false_iff_ne.mpr c35
      have c35b1 : (t101 != 0) = true := bne_iff_ne.mpr c35
      (first | rw [c35b0] | (simp only [i64_w, i32_w]; rw [c35b0]) | skip)
      have H' := am H
      clear H
      obtain ⟨hcz37_0, hcz37_1, hfz37_0, hfz37_1⟩ := cells2 BK105.out
      go_wp2
      go_meet
      case rel => exact ⟨_, (false), (by first | rfl | (simp; done) | (simp [*]; done)), H', ⟨by have := HJ8.out; have := HJ17.out; first | omega | exact Nat.le_refl _⟩, ⟨by (with_reducible repeat (first | refine blk_drewN ?_ _ | refine blk_drew ?_ | refine blk_alloc ?_ _)); exact BK105.out⟩, ⟨by exact bl_g HB.out⟩⟩
     case rest =>
      clear HC34
      try clear c1
      try clear c2
      try clear p2
      try clear c3
      try clear c6
      try clear p6
      try clear c8
      try clear c16
      try clear c16b0
      try clear c16b1
      try clear c17
      try clear c17b0
      try clear c17b1
      try clear c20
      try clear c21
      try clear c29
      try clear c30
      try clear c33
      try clear c35
      try clear c35b0
      try clear c35b1
      try clear hcz12_0
      try clear hcz12_1
      try clear hcz25_0
      try clear hcz25_1
      try clear hcz29_0
      try clear hcz29_1
      try clear hcz36_0
      try clear hcz36_1
      try clear hcz37_0
      try clear hcz37_1
      try clear hfz12_0
      try clear hfz12_1
      try clear hfz25_0
      try clear hfz25_1
      try clear hfz29_0
      try clear hfz29_1
      try clear hfz36_0
      try clear hfz36_1
      try clear hfz37_0
      try clear hfz37_1
      try clear p2
      try clear p6
      obtain ⟨kq, x53_33, rfl, HA, HJ33, BK105, HB⟩ := hcut
      cases kq with
      | zero => exact absurd HA.out (by simp [ehframe_Put.j2])
      | succ kj33 =>
       have H := HA.out
       clear HA
       simp only [ehframe_Put.j2] at H
       by_cases c38 : x53_33 = true
       ·
        subst c38
        replace H : ((leb_Sleb.f kj33 x1_8).bind fun t114 => (some (t114, 0))) = some (r1, r2) := by rw [if_pos rfl] at H; exact H
        replace H := Option.bind_eq_some_iff.mp H
        obtain ⟨t114, A390, H⟩ := H
        replace H : (some (t114, 0)) = some (r1, r2) := H
        have A39 := am A390
        clear A390
        simp only [Option.some.injEq, Prod.mk.injEq] at H
        obtain ⟨rfl, rfl⟩ := H
        go_wp2_with (first | ((with_reducible refine gate_callee (f := 37) rfl ?_); refine goesL_ (some 62) rfl rfl Try.func37 (by kernel_rfl) rfl #[.int .i64 x1_8] rfl (by simp only [ml]; try rfl) ?_; (with_reducible refine (leb_Sleb.calls kj33 x1_8 t114 _ A39.out).mono ?_); rintro e w40 ⟨v115, rfl, ho0, hb⟩; refine ⟨_, rfl, ?_⟩; refine mv3 (am (Kd.R_lower ho0 (below_size (by exact bl_g HB.out)))) (am (blk_below (blk_o BK105.out) hb)) (am (below_step (by exact bl_g HB.out) hb)) ?_; clear BK105 HB; intro HO116 BK105 HB))
        go_ret2
        exact ⟨_, rfl, by (with_reducible repeat (first | apply Kd.R_alloc | apply Kd.R_drewN | apply Kd.R_drew)); exact HO116.out, by exact bl_g HB.out⟩
       replace c38 := Bool.eq_false_iff.mpr c38
       subst c38
       replace H : (if t101 = 0 then ((leb_Uleb.f kj33 x1_8).bind fun t117 => (some (t117, 0))) else ((leb_Fits.f kj33 x1_8 (wrap64 (8 * t101)) t102).bind fun t120 => (if t120 = true then ((leb_Put.f kj33 x1_8 8).bind fun bt121 => (if 0 ≤ t101 then (if t101 ≤ (bt121.1.length : Int) then (some ((bt121.1.take (t101 : Int).toNat), 0)) else (none)) else (none))) else (some (([] : List Int), 11))))) = some (r1, r2) := by rw [if_neg (show ¬ (false = true) by decide)] at H; exact H
       by_cases c41 : t101 = 0
       ·
        rw [if_pos c41] at H
        have c41b0 : (t101 == 0) = true := beq_iff_eq.mpr c41
        have c41b1 : (t101 != 0) = false := bne_eq_false_iff_eq.mpr c41
        clear c41
        replace H := Option.bind_eq_some_iff.mp H
        obtain ⟨t117, A420, H⟩ := H
        replace H : (some (t117, 0)) = some (r1, r2) := H
        have A42 := am A420
        clear A420
        simp only [Option.some.injEq, Prod.mk.injEq] at H
        obtain ⟨rfl, rfl⟩ := H
        obtain ⟨hcz43_0, hcz43_1, hfz43_0, hfz43_1⟩ := cells2 BK105.out
        go_wp2_with (first | ((with_reducible refine gate_callee (f := 38) rfl ?_); refine goesL_ (some 68) rfl rfl Try.func38 (by kernel_rfl) rfl #[.int .i64 x1_8] rfl (by simp only [ml]; try rfl) ?_; (with_reducible refine (leb_Uleb.calls kj33 x1_8 t117 _ A42.out).mono ?_); rintro e w44 ⟨v118, rfl, ho0, hb⟩; refine ⟨_, rfl, ?_⟩; refine mv3 (am (Kd.R_lower ho0 (below_size (by exact bl_g HB.out)))) (am (blk_below (blk_o BK105.out) hb)) (am (below_step (by exact bl_g HB.out) hb)) ?_; clear BK105 HB; intro HO119 BK105 HB))
        go_ret2
        exact ⟨_, rfl, by (with_reducible repeat (first | apply Kd.R_alloc | apply Kd.R_drewN | apply Kd.R_drew)); exact HO119.out, by exact bl_g HB.out⟩
       rw [if_neg c41] at H
       have c41b0 : (t101 == 0) = false := beq_eq_false_iff_ne.mpr c41
       have c41b1 : (t101 != 0) = true := bne_iff_ne.mpr c41
       replace H := Option.bind_eq_some_iff.mp H
       obtain ⟨t120, A450, H⟩ := H
       replace H : (if t120 = true then ((leb_Put.f kj33 x1_8 8).bind fun bt121 => (if 0 ≤ t101 then (if t101 ≤ (bt121.1.length : Int) then (some ((bt121.1.take (t101 : Int).toNat), 0)) else (none)) else (none))) else (some (([] : List Int), 11))) = some (r1, r2) := H
       have A45 := am A450
       clear A450
       by_cases c46 : t120 = true
       rotate_left
       ·
        replace c46 := Bool.eq_false_iff.mpr c46
        subst c46
        replace H : (some (([] : List Int), 11)) = some (r1, r2) := by rw [if_neg (show ¬ (false = true) by decide)] at H; exact H
        simp only [Option.some.injEq, Prod.mk.injEq] at H
        obtain ⟨rfl, rfl⟩ := H
        obtain ⟨hcz55_0, hcz55_1, hfz55_0, hfz55_1⟩ := cells2 BK105.out
        go_wp2_with (first | ((with_reducible refine gate_callee (f := 39) rfl ?_); refine goesL_ (some 76) rfl rfl Try.func39 (by kernel_rfl) rfl #[.int .i64 x1_8, .int .i64 (wrap64 (8 * t101)), .bool t102] rfl (by simp only [ml]; try rfl) ?_; (with_reducible refine (leb_Fits.calls kj33 x1_8 (wrap64 (8 * t101)) t102 false _ A45.out).mono ?_); rintro e w' ⟨rfl, ⟨nd, rfl⟩⟩; refine ⟨_, rfl, ?_⟩))
        go_ret2
        exact ⟨_, rfl, by first | exact Kd.R_nil _ _ _ _ _ | exact Kd.N_nil _ _ _ _ _, by exact bl_g HB.out⟩
       subst c46
       replace H : ((leb_Put.f kj33 x1_8 8).bind fun bt121 => (if 0 ≤ t101 then (if t101 ≤ (bt121.1.length : Int) then (some ((bt121.1.take (t101 : Int).toNat), 0)) else (none)) else (none))) = some (r1, r2) := by rw [if_pos rfl] at H; exact H
       replace H := Option.bind_eq_some_iff.mp H
       obtain ⟨⟨t121, t122⟩, A470, H⟩ := H
       replace H : (if 0 ≤ t101 then (if t101 ≤ (t121.length : Int) then (some ((t121.take (t101 : Int).toNat), 0)) else (none)) else (none)) = some (r1, r2) := H
       have A47 := am A470
       clear A470
       by_cases c48 : 0 ≤ t101
       rotate_left
       ·
        rw [if_neg c48] at H
        exact absurd H (by simp)
       rw [if_pos c48] at H
       have c48b0 := eq_true c48
       have c48b1 : decide (0 ≤ t101) = true := decide_eq_true c48
       clear c48
       by_cases c49 : t101 ≤ (t121.length : Int)
       rotate_left
       ·
        rw [if_neg c49] at H
        exact absurd H (by simp)
       rw [if_pos c49] at H
       have c49b0 := eq_true c49
       have c49b1 : decide (t101 ≤ (t121.length : Int)) = true := decide_eq_true c49
       clear c49
       obtain ⟨y125, hy125⟩ : ∃ y_ : List Int, y_ = (t121.take (t101 : Int).toNat) := ⟨_, rfl⟩
       replace H : (some (y125, 0)) = some (r1, r2) := by first | (rw [hy125]; with_reducible exact H) | (have H2_ := (Option.bind_some _ _).symm.trans H; rw [hy125]; with_reducible exact H2_)
       have Ny125 := am hy125
       clear hy125
       simp only [Option.some.injEq, Prod.mk.injEq] at H
       obtain ⟨rfl, rfl⟩ := H
       obtain ⟨hcz50_0, hcz50_1, hfz50_0, hfz50_1⟩ := cells2 BK105.out
       go_wp2_with (first | ((with_reducible refine gate_callee (f := 39) rfl ?_); refine goesL_ (some 76) rfl rfl Try.func39 (by kernel_rfl) rfl #[.int .i64 x1_8, .int .i64 (wrap64 (8 * t101)), .bool t102] rfl (by simp only [ml]; try rfl) ?_; (with_reducible refine (leb_Fits.calls kj33 x1_8 (wrap64 (8 * t101)) t102 true _ A45.out).mono ?_); rintro e w' ⟨rfl, ⟨nd, rfl⟩⟩; refine ⟨_, rfl, ?_⟩) | ((with_reducible refine gate_callee (f := 40) rfl ?_); refine goesL_ (some 80) rfl rfl Try.func40 (by kernel_rfl) rfl #[.int .i64 x1_8, .int .i64 8] rfl (by simp only [ml]; try rfl) ?_; (with_reducible refine (leb_Put.calls kj33 x1_8 8 t121 t122 _ A47.out).mono ?_); rintro e w51 ⟨v123, rfl, ho0, hb⟩; refine ⟨_, rfl, ?_⟩; refine mv3 (am (Kd.R_lower ho0 (below_size (by exact bl_g HB.out)))) (am (blk_below (blk_o BK105.out) hb)) (am (below_step (by exact bl_g HB.out) hb)) ?_; clear BK105 HB; intro HO124 BK105 HB; obtain ⟨hcz52_0, hcz52_1, hfz52_0, hfz52_1⟩ := cells2 BK105.out; obtain ⟨Ao53, co53, eo53⟩ := Kd.R_slice HO124.out; subst eo53; have q54 : (t101 : Int) ≤ ((t121.length : Int) : Int) := od; obtain ⟨i054, hi054, _, hsz54, _⟩ := info_parts info5; have hcut54 := cut_to (P := Try.prog) 28 5 .i64 Try.underlying28 hi054 Ao53 t121.length co53 t101 (od) q54 (Kd.R_reads' HO124.out).2.1; have hr54 := Kd.R_take (m := (t101 : Int).toNat) HO124.out (by omega); have hy54 : y125.length = (t101 : Int).toNat := (by rw [Ny125.out, List.length_take]; omega); rw [← Ny125.out] at hr54; rw [← hy54] at hr54 hcut54; clear hy54 hi054 hsz54 HO124; have HO127 := am hr54; clear hr54; replace q54 := eq_true q54))
       go_ret2
       exact ⟨_, rfl, by (with_reducible repeat (first | apply Kd.R_alloc | apply Kd.R_drewN | apply Kd.R_drew)); exact HO127.out, by exact bl_g HB.out⟩
end Go.Proofs.Ytfgfnflhdabmcaa.G
end
section
namespace Go.Proofs.Ytfgfnflhdabmcaa.Bit
open Go.RowKit Go.Proofs.YtfgfnflhdabmcaaW.PrintWords Go.Proofs.YtfgfnflhdabmcaaW.PrintMore
theorem wrap_u64 (n : Int) : IntKind.u64.wrap n = n % 18446744073709551616 := IntKind.wrap_u64 n
theorem wrap64_eq (n : Int) : wrap64 n = (n + 9223372036854775808) % 18446744073709551616 - 9223372036854775808 := by unfold wrap64; omega
theorem wrap64_id {n : Int} (h0 : -9223372036854775808 ≤ n) (h1 : n ≤ 9223372036854775807) : wrap64 n = n := by unfold wrap64; omega
/-- of a byte: the finite check -/
theorem byte_all {P : Int → Prop} (h : ∀ i : Fin 256, P (i.val : Int)) (x : Int) (h0 : 0 ≤ x) (h1 : x < 256) : P x := by
  obtain ⟨n, rfl⟩ := Int.eq_ofNat_of_zero_le h0
  exact h ⟨n, by omega⟩
theorem b_or128 (x : Int) : Go.bits .or .u8 (x % 256) 128 = x % 128 + 128 := by
  have h := byte_all (P := fun y => Go.bits .or .u8 y 128 = y % 128 + 128) (by decide +kernel) (x % 256) (by omega) (by omega)
  rw [h]
  omega
theorem b_and127 (x : Int) : Go.bits .and .u8 (x % 256) 127 = x % 128 := by
  have h := byte_all (P := fun y => Go.bits .and .u8 y 127 = y % 128) (by decide +kernel) (x % 256) (by omega) (by omega)
  rw [h]
  omega
theorem b_and127' (x : Int) (h0 : 0 ≤ x) (h1 : x < 256) : Go.bits .and .u8 x 127 = x % 128 := by
  have := b_and127 x
  rwa [Int.emod_eq_of_lt h0 h1] at this
theorem ofInt_toNat (b : Nat) (x : Int) : ((BitVec.ofInt b x).toNat : Int) = x % (2 ^ b : Nat) := by
  rw [BitVec.toNat_ofInt]
  have : (0 : Int) ≤ x % (2 ^ b : Nat) := Int.emod_nonneg _ (by have := Nat.two_pow_pos b; omega)
  omega
/-- a mask of low bits, of any 64-bit number -/
theorem i64_mask (x : Int) (i : Nat) (hi : i ≤ 62) : Go.bits .and .i64 x (2 ^ i - 1) = x % 2 ^ i := by
  have hpos : 0 < 2 ^ i := Nat.two_pow_pos i
  have hle : 2 ^ i ≤ 2 ^ 62 := Nat.pow_le_pow_right (by decide) hi
  have h62 : (2 : Nat) ^ 62 = 4611686018427387904 := by decide
  have hc : ((2 : Int) ^ i - 1) = ((2 ^ i - 1 : Nat) : Int) := by rw [Int.natCast_sub hpos]; simp
  have e1 : (BitVec.ofInt 64 ((2 ^ i - 1 : Nat) : Int)).toNat = 2 ^ i - 1 := by
    rw [BitVec.ofInt_natCast, BitVec.toNat_ofNat]
    exact Nat.mod_eq_of_lt (by omega)
  show IntKind.i64.wrap ((BitVec.ofInt 64 x &&& BitVec.ofInt 64 (2 ^ i - 1)).toNat : Int) = _
  rw [hc, BitVec.toNat_and, e1, Nat.and_two_pow_sub_one_eq_mod]
  have e2 := ofInt_toNat 64 x
  have e3 : (((BitVec.ofInt 64 x).toNat % 2 ^ i : Nat) : Int) = x % 2 ^ i := by
    rw [Int.natCast_emod, e2]
    have hd : (2 ^ i : Int) ∣ ((2 ^ 64 : Nat) : Int) := ⟨2 ^ (64 - i), by
      rw [← Int.pow_add, show i + (64 - i) = 64 from by omega]
      rfl⟩
    have := Int.emod_emod_of_dvd x hd
    simpa using this
  rw [e3, IntKind.wrap_i64]
  have h0 : 0 ≤ x % 2 ^ i := Int.emod_nonneg _ (by have : (0 : Int) < 2 ^ i := by exact_mod_cast hpos
                                                   omega)
  have h1 : x % 2 ^ i < 2 ^ i := Int.emod_lt_of_pos _ (by exact_mod_cast hpos)
  have h2 : (2 : Int) ^ i ≤ 4611686018427387904 := by
    have : ((2 ^ i : Nat) : Int) ≤ ((2 ^ 62 : Nat) : Int) := by exact_mod_cast hle
    rw [h62] at this
    simpa using this
  omega
theorem or_comm (k : IntKind) (x y : Int) : Go.bits .or k x y = Go.bits .or k y x := by
  show k.wrap ((BitVec.ofInt k.bits x ||| BitVec.ofInt k.bits y).toNat : Int) = k.wrap ((BitVec.ofInt k.bits y ||| BitVec.ofInt k.bits x).toNat : Int)
  rw [BitVec.or_comm]
theorem wraps_u64 (n : Int) (h₀ : 0 ≤ n) (h₁ : n < 2 ^ 64) : IntKind.u64.wrap n = n := by rw [IntKind.wrap_u64]; omega
/-- low bits and bits above them, joined -/
theorem u64_join (u v : Int) (i : Nat) (hu0 : 0 ≤ u) (hu : u < 2 ^ i) (hv0 : 0 ≤ v) (hv : v % 2 ^ i = 0) (hv1 : v < 18446744073709551616) (hu1 : u < 18446744073709551616) : Go.bits .or .u64 u v = u + v := by
  rw [or_comm, bits_join .u64 64 (by decide) wraps_u64 i v u hv0 hv (by omega) hu0 hu (by omega)]
  omega
end Go.Proofs.Ytfgfnflhdabmcaa.Bit
end
section
namespace Go.Proofs.Ytfgfnflhdabmcaa.Leb
open Go.RowKit Go.Proofs.Ytfgfnflhdabmcaa.G Go.Proofs.YtfgfnflhdabmcaaW.PrintWords Go.Proofs.YtfgfnflhdabmcaaW.PrintLast Go.Proofs.YtfgfnflhdabmcaaW.PrintMore Go.Proofs.Ytfgfnflhdabmcaa.Bit
/-- an unsigned number's groups -/
def ulebL (u : Nat) : List Int := if h : 127 < u then ((u % 128 + 128 : Nat) : Int) :: ulebL (u / 128) else [(u : Int)]
termination_by u
decreasing_by omega
/-- a signed number's groups -/
def slebL (n : Int) : List Int := if h : n < -64 ∨ 63 < n then (n % 128 + 128) :: slebL (n / 128) else [n % 128]
termination_by n.natAbs
decreasing_by omega
theorem ulebL_big {u : Nat} (h : 127 < u) : ulebL u = ((u % 128 + 128 : Nat) : Int) :: ulebL (u / 128) := by rw [ulebL, dif_pos h]
theorem ulebL_small {u : Nat} (h : ¬ 127 < u) : ulebL u = [(u : Int)] := by rw [ulebL, dif_neg h]
theorem slebL_big {n : Int} (h : n < -64 ∨ 63 < n) : slebL n = (n % 128 + 128) :: slebL (n / 128) := by rw [slebL, dif_pos h]
theorem slebL_small {n : Int} (h : ¬ (n < -64 ∨ 63 < n)) : slebL n = [n % 128] := by rw [slebL, dif_neg h]
theorem uleb_l0 (d : Nat) : ∀ (k u : Nat) (acc : List Int), u < 128 ^ (d + 1) → d < k → acc.length + d ≤ 1000 → leb_Uleb.l0 k acc (u : Int) = some (acc ++ ulebL u) := by
  induction d with
  | zero =>
    intro k u acc hu hk ha
    obtain ⟨k, rfl⟩ : ∃ m, k = m + 1 := ⟨k - 1, by omega⟩
    have hu' : u < 128 := by simpa using hu
    simp only [leb_Uleb.l0]
    rw [if_neg (by omega), if_pos (by omega), ulebL_small (by omega), show ((u : Int)) % 256 = u from by omega]
  | succ d ih =>
    intro k u acc hu hk ha
    obtain ⟨k, rfl⟩ : ∃ m, k = m + 1 := ⟨k - 1, by omega⟩
    simp only [leb_Uleb.l0]
    by_cases h : 127 < u
    · rw [if_pos (by omega), if_pos (by omega), b_or128]
      have hd : u / 128 < 128 ^ (d + 1) := by rw [Nat.pow_succ] at hu; omega
      have := ih k (u / 128) (acc ++ [((u % 128 + 128 : Nat) : Int)]) hd (by omega) (by simp; omega)
      rw [show ((u : Int)) % 128 + 128 = ((u % 128 + 128 : Nat) : Int) from by omega, show ((u : Int)) / 128 = ((u / 128 : Nat) : Int) from by omega, this, ulebL_big h]
      simp
    · rw [if_neg (by omega), if_pos (by omega), ulebL_small h, show ((u : Int)) % 256 = u from by omega]
theorem uleb_f (a : Int) (k : Nat) (hk : 10 ≤ k) : leb_Uleb.f k a = some (ulebL (a % 18446744073709551616).toNat) := by
  unfold leb_Uleb.f
  have h0 : 0 ≤ a % 18446744073709551616 := by omega
  obtain ⟨u, hu⟩ := Int.eq_ofNat_of_zero_le h0
  rw [wrap_u64, hu, uleb_l0 9 k u [] (by have : (128 : Nat) ^ (9 + 1) = 1180591620717411303424 := by decide
                                         omega) (by omega) (by simp)]
  simp
theorem sleb_l0 (d : Nat) : ∀ (k : Nat) (n : Int) (acc : List Int), -(64 * 128 ^ d : Int) ≤ n → n < 64 * 128 ^ d → d < k → acc.length + d ≤ 1000 → leb_Sleb.l0 k n acc = some (acc ++ slebL n) := by
  induction d with
  | zero =>
    intro k n acc h0 h1 hk ha
    obtain ⟨k, rfl⟩ : ∃ m, k = m + 1 := ⟨k - 1, by omega⟩
    simp only [leb_Sleb.l0]
    rw [if_neg (by simp at h0; omega), if_neg (by simp at h1; omega), if_pos (by omega), slebL_small (by simp at h0 h1; omega), b_and127]
  | succ d ih =>
    intro k n acc h0 h1 hk ha
    obtain ⟨k, rfl⟩ : ∃ m, k = m + 1 := ⟨k - 1, by omega⟩
    simp only [leb_Sleb.l0]
    by_cases h : n < -64 ∨ 63 < n
    · have hp : (128 : Int) ^ (d + 1) = 128 ^ d * 128 := Int.pow_succ _ _
      have hi := ih k (n / 128) (acc ++ [n % 128 + 128]) (by rw [hp] at h0; omega) (by rw [hp] at h1; omega) (by omega) (by simp; omega)
      simp only [List.append_assoc, List.singleton_append] at hi
      by_cases c : n < -64
      · rw [if_pos c, if_pos (show acc.length < 140737488355328 by omega), b_or128, hi, slebL_big h]
      · rw [if_neg c, if_pos (show n > 63 by omega), if_pos (show acc.length < 140737488355328 by omega), b_or128, hi, slebL_big h]
    · rw [if_neg (by omega), if_neg (by omega), if_pos (by omega), slebL_small h, b_and127]
theorem sleb_f (a : Int) (h0 : -9223372036854775808 ≤ a) (h1 : a ≤ 9223372036854775807) (k : Nat) (hk : 10 ≤ k) : leb_Sleb.f k a = some (slebL a) := by
  unfold leb_Sleb.f
  rw [sleb_l0 9 k a [] (by have : (128 : Int) ^ 9 = 9223372036854775808 := by decide
                           omega) (by have : (128 : Int) ^ 9 = 9223372036854775808 := by decide
                                      omega) (by omega) (by simp)]
  simp
end Go.Proofs.Ytfgfnflhdabmcaa.Leb
end
section
namespace Go.Proofs.Ytfgfnflhdabmcaa.G
open Go.RowKit Go.Proofs.YtfgfnflhdabmcaaW.PrintWords Go.Proofs.YtfgfnflhdabmcaaW.PrintLast Go.Proofs.YtfgfnflhdabmcaaW.PrintMore
attribute [local go_sem] max2_int min2_int max_two min_two max_three min_three max_four min_four
def cfa_put.l0 : Nat → List Int → List (List Int) → Int → Int → Option (List Int)
  | 0, _, _, _, _ => none
  | k + 1, x0, x7, x8, x9 => if x9 < x8 then (if 0 ≤ x9 then (if x9 < (x7.length : Int) then (if x0.length + (rd_L12 x7 x9).length < 140737488355328 then (cfa_put.l0 k (x0 ++ (rd_L12 x7 x9)) x7 x8 (wrap64 (x9 + 1))) else (none)) else (none)) else (none)) else (some x0)
def cfa_put.f (k : Nat) (l0 : List Int) (l1 : List (List Int)) : Option (List Int) := cfa_put.l0 k l0 l1 (l1.length : Int) 0
set_option maxHeartbeats 8000000 in
theorem cfa_put.calls (k : Nat) (P0_ : Nat → Prop) (u9000_ : Value) (l0 : List Int) (A1 : Option Addr) (c1 : Nat) (l1 : List (List Int)) (r : List Int) (w0 w : World) (hB : Below w0.heap.size w0 w) (ho0 : Kd.R (Kd.int .u8) 5 w w0.heap.size P0_ u9000_ l0) (hr1 : ∀ W_, Kept w W_ (fun k_ => P0_ k_) → Kd.C (Kd.slice 5 (Kd.int .u8)) W_ A1 l1.length l1) (hc1 : l1.length ≤ c1) (h : cfa_put.f k l0 l1 = some r) :
    Calls Try.prog 79 #[u9000_, .slice A1 l1.length c1] w fun e w' => ∃ v0_ : Value, e = .returned (v0_) ∧ Kd.R (Kd.int .u8) 5 w' w0.heap.size (fun k_ => (P0_ k_ ∨ w.heap.size ≤ k_)) v0_ r ∧ Below w0.heap.size w0 w' ∧ Kept w w' (fun k_ => P0_ k_) := by
 have HO0 := am (show Kd.R (Kd.int .u8) 5 w w0.heap.size (fun k_ => (P0_ k_ ∨ w.heap.size ≤ k_)) u9000_ l0 from Kd.R_mono ho0 (fun k_ hk => (.inl hk)))
 have HR1 := am hr1
 have HC1 := am hc1
 clear hr1 hc1
 have HK := am (Kept.refl w (fun k_ => P0_ k_))
 have HW0 := am hB.size
 have HB := am hB
 clear hB
 have H : (cfa_put.l0 k l0 l1 (l1.length : Int) 0) = some r := h
 clear h
 have H' := am H
 clear H
 go_enter Try.func79, Try.ntmps79
 go_wp2
 go_loopg [0, 9] k (fun kq v0 v9 w' => ∃ (x0_1 : List Int) (x9_1 : Int), v9 = .int .i64 x9_1 ∧ Aside0 (cfa_put.l0 kq x0_1 l1 (l1.length : Int) x9_1 = some r) ∧ Aside0 (kq ≤ k) ∧ Aside0 (Kd.R (Kd.int .u8) 5 w' w0.heap.size (fun k_ => (P0_ k_ ∨ w.heap.size ≤ k_)) v0 x0_1) ∧ Aside0 (Kept w w' (fun k_ => P0_ k_)) ∧ Aside0 (Below w0.heap.size w0 w'))
 case atStart => exact ⟨(l0), (0), (by first | rfl | (simp; done) | (simp [*]; done)), H', ⟨Nat.le_refl _⟩, ⟨by (with_reducible repeat (first | apply Kd.R_alloc | apply Kd.R_drewN | apply Kd.R_drew)); exact HO0.out⟩, ⟨by repeat (first | (with_reducible first | exact HK.out | apply Kept.alloc | apply Kept.drewN | apply Kept.drew) | exact HK.out)⟩, ⟨by exact bl_g HB.out⟩⟩
 case round =>
  clear H'
  try clear c1
  try clear p2
  obtain ⟨x0_1, x9_1, rfl, HA, HK1, HO_0, HK, HB⟩ := hrel
  cases gk with
  | zero => exact absurd HA.out (by simp [cfa_put.l0])
  | succ k1 =>
   have H := HA.out
   clear HA
   simp only [cfa_put.l0] at H
   by_cases c3 : x9_1 < (l1.length : Int)
   rotate_left
   ·
    rw [if_neg c3] at H
    have c3b0 : decide (x9_1 < (l1.length : Int)) = false := decide_eq_false c3
    clear c3
    obtain rfl := Option.some.inj H
    go_wp2
    go_ret
    exact ⟨_, rfl, by (with_reducible repeat (first | apply Kd.R_alloc | apply Kd.R_drewN | apply Kd.R_drew)); exact HO_0.out, by exact bl_g HB.out, by repeat (first | (with_reducible first | exact HK.out | apply Kept.alloc | apply Kept.drewN | apply Kept.drew) | exact HK.out)⟩
   rw [if_pos c3] at H
   have c3b0 : decide (x9_1 < (l1.length : Int)) = true := decide_eq_true c3
   clear c3
   by_cases c4 : 0 ≤ x9_1
   rotate_left
   ·
    rw [if_neg c4] at H
    exact absurd H (by simp)
   rw [if_pos c4] at H
   have c4b0 : decide (0 ≤ x9_1) = true := decide_eq_true c4
   clear c4
   by_cases c5 : x9_1 < (l1.length : Int)
   rotate_left
   ·
    rw [if_neg c5] at H
    exact absurd H (by simp)
   rw [if_pos c5] at H
   have c5b0 : decide (x9_1 < (l1.length : Int)) = true := decide_eq_true c5
   clear c5
   by_cases c6 : x0_1.length + (rd_L12 l1 x9_1).length < 140737488355328
   rotate_left
   ·
    rw [if_neg c6] at H
    exact absurd H (by simp)
   rw [if_pos c6] at H
   have LMc6 := am c6
   clear c6
   obtain ⟨y102, hy102⟩ : ∃ y_ : List Int, y_ = (x0_1 ++ (rd_L12 l1 x9_1)) := ⟨_, rfl⟩
   replace H : (cfa_put.l0 k1 y102 l1 (l1.length : Int) (wrap64 (x9_1 + 1))) = some r := by first | (rw [hy102]; with_reducible exact H) | (have H2_ := (Option.bind_some _ _).symm.trans H; rw [hy102]; with_reducible exact H2_)
   have Ny102 := am hy102
   clear hy102
   have H' := am H
   clear H
   have p101 : 0 ≤ (x9_1 : Int) := od
   have q101 : x9_1 < (l1.length : Int) := od
   obtain ⟨ad101, A101_0, c101_0, e101, hx101_0, hl101_0, hi101_0⟩ := at_L12 (Kd.C_kept_now HR1.out HK.out) x9_1 p101 q101
   cases e101
   have HR101_0 := am hi101_0
   have HC101_0 := am hl101_0
   clear hi101_0 hl101_0
   replace p101 := eq_true p101
   replace q101 := eq_true q101
   go_wp2_with (first | ((with_reducible refine gate_builtin (b := .append) (xs := #[.tmp 13, .tmp 14]) rfl ?_); at_builtin; refine Kd.R_append_rows (Kd.int .u8) (w0 := w0) w0.heap.size rfl (.tmp 13) (.tmp 14) 28 5 (.int .u8 0) 1 rfl Try.underlying28 info5 rfl (by decide) (by omega) u0 x0_1 (rd_L12 l1 x9_1) _ _ _ (fun k_ => (P0_ k_ ∨ w.heap.size ≤ k_)) (fun _ => False) rfl rfl ?aO ?aR (fun _ _ h => h) (fun _ h => h.elim) ?aF ?aB ?aS ?aL ?_; (case aR => repeat (first | exact (by repeat (first | (with_reducible exact HR101_0.out) | (with_reducible refine Kd.C_alloc ?_ _) | (with_reducible refine Kd.C_drewN ?_ _) | (with_reducible refine Kd.C_drew ?_) | exact HR101_0.out)) | (with_reducible refine Kd.C_alloc ?_ _) | (with_reducible refine Kd.C_drewN ?_ _) | (with_reducible refine Kd.C_drew ?_))); (case aB => exact (by exact bl_o HB.out)); (case aF => exact (fun k_ hk => (.inr (Nat.le_trans (by first | exact HK.out.1 | exact (show Kept w _ (fun k_ => P0_ k_) from by repeat (first | (with_reducible first | exact HK.out | apply Kept.alloc | apply Kept.drewN | apply Kept.drew) | exact HK.out)).1) hk)))); (case aO => exact (Kd.R_o HO_0.out)); (case aS => exact (below_size (by exact bl_o HB.out))); (case aL => have := LMc6.out; omega); intro v103 w7 ho hb hg hat; rw [← Ny102.out] at ho; refine mv3 (am (hb)) (am (Kept.of_grown (S := (fun k_ => P0_ k_)) hg (by repeat (first | (with_reducible first | exact HK.out | apply Kept.alloc | apply Kept.drewN | apply Kept.drew) | exact HK.out)) (fun k_ e_ => (HO_0.out.1 k_ e_)))) (am (ho)) ?_; clear HB HK HO_0; intro HB HK HO104; clear ho hb hg hat))
   go_roundg k1
   case measure => have := HK1.out; omega
   case rel => exact ⟨(y102), (wrap64 (x9_1 + 1)), (by first | rfl | (simp; done) | (simp [*]; done)), H', ⟨by have := HK1.out; omega⟩, ⟨by (with_reducible repeat (first | apply Kd.R_alloc | apply Kd.R_drewN | apply Kd.R_drew)); exact HO104.out⟩, ⟨by repeat (first | (with_reducible first | exact HK.out | apply Kept.alloc | apply Kept.drewN | apply Kept.drew) | exact HK.out)⟩, ⟨by exact bl_g HB.out⟩⟩
end Go.Proofs.Ytfgfnflhdabmcaa.G
end
section
namespace Go.Proofs.Ytfgfnflhdabmcaa.CfaB
open Go.RowKit Go.Proofs.Ytfgfnflhdabmcaa.G Go.Proofs.YtfgfnflhdabmcaaW.PrintWords Go.Proofs.YtfgfnflhdabmcaaW.PrintLast Go.Proofs.YtfgfnflhdabmcaaW.PrintMore Go.Proofs.Ytfgfnflhdabmcaa.Bit Go.Proofs.Ytfgfnflhdabmcaa.Leb Go.Proofs.Ytfgfnflhdabmcaa.Cfa
theorem uL_le (d : Nat) : ∀ u : Nat, u < 128 ^ (d + 1) → (ulebL u).length ≤ d + 1 := by
  induction d with
  | zero =>
    intro u h
    rw [ulebL_small (by simp at h; omega)]
    simp
  | succ d ih =>
    intro u h
    by_cases c : 127 < u
    · rw [ulebL_big c]
      have := ih (u / 128) (by rw [Nat.pow_succ] at h; omega)
      simp
      omega
    · rw [ulebL_small c]
      simp
theorem sL_le (d : Nat) : ∀ n : Int, -(64 * 128 ^ d : Int) ≤ n → n < 64 * 128 ^ d → (slebL n).length ≤ d + 1 := by
  induction d with
  | zero =>
    intro n h0 h1
    rw [slebL_small (by simp at h0 h1; omega)]
    simp
  | succ d ih =>
    intro n h0 h1
    by_cases c : n < -64 ∨ 63 < n
    · rw [slebL_big c]
      rw [Int.pow_succ] at h0 h1
      have := ih (n / 128) (by omega) (by omega)
      simp
      omega
    · rw [slebL_small c]
      simp
def U (a : Int) : List Int := ulebL (a % 18446744073709551616).toNat
theorem U_le (a : Int) : (U a).length ≤ 10 := uL_le 9 _ (by
  have : (128 : Nat) ^ (9 + 1) = 1180591620717411303424 := by decide
  omega)
theorem S_le {a : Int} (h0 : -9223372036854775808 ≤ a) (h1 : a ≤ 9223372036854775807) : (slebL a).length ≤ 10 := sL_le 9 a (by
  have : (128 : Int) ^ 9 = 9223372036854775808 := by decide
  omega) (by
  have : (128 : Int) ^ 9 = 9223372036854775808 := by decide
  omega)
theorem U_f (a : Int) (k : Nat) (hk : 10 ≤ k) : leb_Uleb.f k a = some (U a) := uleb_f a k hk
/-- how far: an advance's bytes -/
def advB (n : Int) : List Int := if n < 64 then [(64 + n) % 256] else if n < 256 then [2, n % 256] else if n < 65536 then [3, n % 256, (n / 256) % 256] else [4, n % 256, (n / 256) % 256, (n / 65536) % 256, (n / 16777216) % 256]
/-- an op's bytes -/
def opB (k r n : Int) : List Int :=
  if k = 1 then advB n
  else if k = 2 then [12] ++ U r ++ U n
  else if k = 4 then [13] ++ U r
  else if k = 3 then [14] ++ U n
  else if k = 5 then (if n ≤ 0 then [(128 + r) % 256] ++ U (-(n / 8)) else [17] ++ U r ++ slebL (-(n / 8)))
  else if k = 6 then [(192 + r) % 256]
  else if k = 7 then [7] ++ U r
  else if k = 8 then [8] ++ U r
  else if k = 9 then [10]
  else if k = 10 then [11]
  else [0]
/-- what an Offset may be -/
theorem may5 {r n : Int} (h : mayF 5 r n = true) : ∃ m : Int, n = 8 * m ∧ 0 ≤ r ∧ r ≤ 16 ∧ -268435456 ≤ m ∧ m ≤ 268435455 := by
  have h' : (decide (n.tmod 8 = 0) && (decide (0 ≤ r) && (decide (r ≤ 16) && (decide (-2147483648 ≤ n) && decide (n ≤ 2147483640))))) = true := h
  simp only [Bool.and_eq_true, decide_eq_true_eq] at h'
  obtain ⟨h0, h1, h2, h3, h4⟩ := h'
  obtain ⟨m, rfl⟩ := Int.dvd_of_tmod_eq_zero h0
  exact ⟨m, rfl, h1, h2, by omega, by omega⟩
theorem may1 {r n : Int} (h : mayF 1 r n = true) : 0 ≤ n ∧ n ≤ 2147483647 := by
  have h' : (decide (r = 0) && (decide (0 ≤ n) && decide (n ≤ 2147483647))) = true := h
  simp only [Bool.and_eq_true, decide_eq_true_eq] at h'
  exact h'.2
theorem may6 {r n : Int} (h : mayF 6 r n = true) : 0 ≤ r ∧ r ≤ 16 := by
  have h' : (decide (n = 0) && (decide (0 ≤ r) && decide (r ≤ 16))) = true := h
  simp only [Bool.and_eq_true, decide_eq_true_eq] at h'
  exact h'.2
theorem advB_le (n : Int) : (advB n).length ≤ 30 := by
  unfold advB
  by_cases d1 : n < 64
  · rw [if_pos d1]; simp
  · rw [if_neg d1]
    by_cases d2 : n < 256
    · rw [if_pos d2]; simp
    · rw [if_neg d2]
      by_cases d3 : n < 65536
      · rw [if_pos d3]; simp
      · rw [if_neg d3]; simp
theorem opB_le {k r n : Int} (h : mayF k r n = true) : (opB k r n).length ≤ 30 := by
  have hr := U_le r
  have hn := U_le n
  unfold opB
  by_cases c1 : k = 1
  · rw [if_pos c1]; exact advB_le n
  rw [if_neg c1]
  by_cases c2 : k = 2
  · rw [if_pos c2]; simp; omega
  rw [if_neg c2]
  by_cases c4 : k = 4
  · rw [if_pos c4]; simp; omega
  rw [if_neg c4]
  by_cases c3 : k = 3
  · rw [if_pos c3]; simp; omega
  rw [if_neg c3]
  by_cases c5 : k = 5
  · rw [if_pos c5]
    subst c5
    obtain ⟨m, rfl, h1, h2, h3, h4⟩ := may5 h
    have e : 8 * m / 8 = m := Int.mul_ediv_cancel_left m (by decide)
    rw [e]
    have hm := U_le (-m)
    have hs := S_le (a := -m) (by omega) (by omega)
    by_cases d : 8 * m ≤ 0
    · rw [if_pos d]; simp; omega
    · rw [if_neg d]; simp; omega
  rw [if_neg c5]
  by_cases c6 : k = 6
  · rw [if_pos c6]; simp
  rw [if_neg c6]
  by_cases c7 : k = 7
  · rw [if_pos c7]; simp; omega
  rw [if_neg c7]
  by_cases c8 : k = 8
  · rw [if_pos c8]; simp; omega
  rw [if_neg c8]
  by_cases c9 : k = 9
  · rw [if_pos c9]; simp
  rw [if_neg c9]
  by_cases c10 : k = 10
  · rw [if_pos c10]; simp
  rw [if_neg c10]
  simp
theorem put1 (k : Nat) (hk : 2 ≤ k) (a x : List Int) (ha : a.length ≤ 1000) (hx : x.length ≤ 1000) : cfa_put.f k a [x] = some (a ++ x) := by
  obtain ⟨k, rfl⟩ : ∃ m, k = m + 1 + 1 := ⟨k - 2, by omega⟩
  show cfa_put.l0 (k + 1 + 1) a [x] 1 0 = _
  have e0 : rd_L12 [x] 0 = x := rfl
  rw [cfa_put.l0, if_pos (by omega), if_pos (by omega), if_pos (by simp), e0, if_pos (by omega), show wrap64 (0 + 1) = 1 from by unfold wrap64; omega, cfa_put.l0, if_neg (by omega)]
theorem put2 (k : Nat) (hk : 3 ≤ k) (a x y : List Int) (ha : a.length ≤ 1000) (hx : x.length ≤ 1000) (hy : y.length ≤ 1000) : cfa_put.f k a [x, y] = some (a ++ x ++ y) := by
  obtain ⟨k, rfl⟩ : ∃ m, k = m + 1 + 1 + 1 := ⟨k - 3, by omega⟩
  show cfa_put.l0 (k + 1 + 1 + 1) a [x, y] 2 0 = _
  have e0 : rd_L12 [x, y] 0 = x := rfl
  have e1 : rd_L12 [x, y] 1 = y := rfl
  rw [cfa_put.l0, if_pos (by omega), if_pos (by omega), if_pos (by simp), e0, if_pos (by omega), show wrap64 (0 + 1) = 1 from by unfold wrap64; omega, cfa_put.l0, if_pos (by omega), if_pos (by omega), if_pos (by simp), e1, if_pos (by rw [List.length_append]; omega), show wrap64 (1 + 1) = 2 from by unfold wrap64; omega, cfa_put.l0, if_neg (by omega)]
theorem C_blk {α : Type} (d : Kd α) {w : World} {g e : Nat} {cs : Array Value} {xs : List α} (h : w.heap[g]? = some (.cells cs e (0, 0))) (hr : Reps (d.K w) d.sz xs cs.toList) (hm : xs.length ≤ 9223372036854775807) : d.C w (some ⟨g, 0, none⟩) xs.length xs := by
  refine ⟨rfl, hm, fun _ => ⟨_, rfl, fun j p hj => ⟨_, ?_, hr.2 j p hj, fun i u hu => ?_⟩⟩⟩
  · exact d.K_len (hr.2 j p hj)
  · have hc := blk_cell h (j * d.sz + i)
    have hl := d.K_len (hr.2 j p hj)
    have hi : i < d.sz := by rw [← hl]; exact (List.getElem?_eq_some_iff.1 hu).1
    have e1 : (⟨g, 0, none⟩ : Addr).add (j * d.sz + i) = ⟨g, j * d.sz + i, none⟩ := by
      unfold Addr.add
      split
      · rename_i h0; rw [h0]
      · simp only [Nat.zero_add]
    rw [e1, hc, ← hu]
    rw [List.getElem?_take_of_lt hi, List.getElem?_drop, Array.getElem?_toList]
/-- a row of bytes of one's own -/
abbrev Own (w : World) (b : Nat) (v : Value) (l : List Int) : Prop := Kd.R (Kd.int .u8) 5 w b (fun _ => True) v l
theorem own_kept {w W : World} {b : Nat} {v x : Value} {l : List Int} (hx : Own w b x l) (hK : Kept w W (fun k => some k = v.ownBlock)) (hne : x.ownBlock = none ∨ x.ownBlock ≠ v.ownBlock) :
    ∃ A c, x = .slice A l.length c ∧ l.length ≤ c ∧ Kd.C (Kd.int .u8) W A l.length l := by
  have h1 := Kd.R_kept (Kd.R_tight rfl hx) hK (fun k hk hs => by
    rcases hne with h | h
    · rw [h] at hk
      cases hk
    · exact h (hk.symm.trans hs))
  obtain ⟨A, c, rfl⟩ := Kd.R_slice hx
  have h2 := Kd.R_reads' h1
  exact ⟨A, c, rfl, h2.2.1, h2.2.2⟩
theorem put1_calls {w wb : World} {g : Nat} {v x : Value} {a l : List Int} (hv : Own w wb.heap.size v a) (hx : Own w wb.heap.size x l) (hne : x.ownBlock = none ∨ x.ownBlock ≠ v.ownBlock) (hg : w.heap[g]? = some (.cells #[x] 28 (0, 0))) (ha : a.length ≤ 1000) (hl : l.length ≤ 1000) (hB : Below wb.heap.size wb w) :
    Calls Try.prog 79 #[v, .slice (some ⟨g, 0, none⟩) 1 1] w fun e w' => ∃ u, e = .returned u ∧ Own w' wb.heap.size u (a ++ l) ∧ Below wb.heap.size wb w' := by
  refine (cfa_put.calls 2 (fun k => some k = v.ownBlock) v a (some ⟨g, 0, none⟩) 1 [l] (a ++ l) wb w hB (Kd.R_tight rfl hv) ?_ (by simp) (put1 2 (by omega) a l ha hl)).mono ?_
  · intro W hK
    have hg' : W.heap[g]? = some (.cells #[x] 28 (0, 0)) := (hK.2 g (blk_lt hg) (fun hs => Kd.R_ne hv hg (by decide) hs)).trans hg
    obtain ⟨A, c, rfl, hle, hC⟩ := own_kept hx hK hne
    exact C_blk (Kd.slice 5 (Kd.int .u8)) (xs := [l]) hg' ((Reps.none _ _).snoc ⟨A, c, rfl, hle, hC⟩ rfl) (by simp)
  · rintro e w' ⟨u, rfl, hR, hB', _⟩
    exact ⟨u, rfl, Kd.R_mono hR (fun _ _ => trivial), hB'⟩
theorem put2_calls {w wb : World} {g : Nat} {v x y : Value} {a l m : List Int} (hv : Own w wb.heap.size v a) (hx : Own w wb.heap.size x l) (hy : Own w wb.heap.size y m) (hne : x.ownBlock = none ∨ x.ownBlock ≠ v.ownBlock) (hne2 : y.ownBlock = none ∨ y.ownBlock ≠ v.ownBlock) (hg : w.heap[g]? = some (.cells #[x, y] 28 (0, 0))) (ha : a.length ≤ 1000) (hl : l.length ≤ 1000) (hm : m.length ≤ 1000) (hB : Below wb.heap.size wb w) :
    Calls Try.prog 79 #[v, .slice (some ⟨g, 0, none⟩) 2 2] w fun e w' => ∃ u, e = .returned u ∧ Own w' wb.heap.size u (a ++ l ++ m) ∧ Below wb.heap.size wb w' := by
  refine (cfa_put.calls 3 (fun k => some k = v.ownBlock) v a (some ⟨g, 0, none⟩) 2 [l, m] (a ++ l ++ m) wb w hB (Kd.R_tight rfl hv) ?_ (by simp) (put2 3 (by omega) a l m ha hl hm)).mono ?_
  · intro W hK
    have hg' : W.heap[g]? = some (.cells #[x, y] 28 (0, 0)) := (hK.2 g (blk_lt hg) (fun hs => Kd.R_ne hv hg (by decide) hs)).trans hg
    obtain ⟨A, c, rfl, hle, hC⟩ := own_kept hx hK hne
    obtain ⟨A', c', rfl, hle', hC'⟩ := own_kept hy hK hne2
    exact C_blk (Kd.slice 5 (Kd.int .u8)) (xs := [l, m]) hg' (((Reps.none _ _).snoc (show (Kd.slice 5 (Kd.int .u8)).K W l [.slice A l.length c] from ⟨A, c, rfl, hle, hC⟩) rfl).snoc (show (Kd.slice 5 (Kd.int .u8)).K W m [.slice A' m.length c'] from ⟨A', c', rfl, hle', hC'⟩) rfl) (by simp)
  · rintro e w' ⟨u, rfl, hR, hB', _⟩
    exact ⟨u, rfl, Kd.R_mono hR (fun _ _ => trivial), hB'⟩
def StopB (p : Prop) : Prop := p
theorem stopB {p : Prop} (h : StopB p) : p := h
theorem Own.below {w w' : World} {b : Nat} {v : Value} {l : List Int} (h : Own w b v l) (hb : Below w.heap.size w w') : Own w' b v l := Kd.R_below h hb
/-- a row that is new, and an elder one -/
theorem own_ne {w w' : World} {b : Nat} {v u : Value} {a l : List Int} (h : Own w b v a) (hu : Own w' w.heap.size u l) : (v.ownBlock = none ∨ v.ownBlock ≠ u.ownBlock) ∧ (u.ownBlock = none ∨ u.ownBlock ≠ v.ownBlock) := by
 have key : ∀ k, v.ownBlock = some k → u.ownBlock = some k → False := fun k h1 h2 => by
   have := Kd.R_lt h k h1
   have := Kd.R_base hu k h2
   omega
 cases hv : v.ownBlock with
 | none => exact ⟨.inl rfl, by cases hu2 : u.ownBlock with | none => exact .inl rfl | some k => exact .inr (by simp)⟩
 | some k =>
  refine ⟨.inr fun e => key k hv e.symm, ?_⟩
  cases hu2 : u.ownBlock with
  | none => exact .inl rfl
  | some j => exact .inr fun e => key k hv (hu2.trans e)
theorem mayB_k {k r n : Int} (h : mayF k r n = true) : k = 0 ∨ k = 1 ∨ k = 2 ∨ k = 3 ∨ k = 4 ∨ k = 5 ∨ k = 6 ∨ k = 7 ∨ k = 8 ∨ k = 9 ∨ k = 10 := by
 unfold mayF at h
 split at h
 ·
  omega
 split at h
 ·
  omega
 split at h
 ·
  omega
 split at h
 ·
  omega
 split at h
 ·
  omega
 cases h
set_option maxHeartbeats 4000000 in
theorem bytes_calls (k r n : Int) (hm : mayF k r n = true) (w : World) : Calls Try.prog 59 #[.agg #[.int .i64 k, .int .i64 r, .int .i64 n]] w fun e w' => ∃ v, e = .returned v ∧ Own w' w.heap.size v (opB k r n) ∧ Below w.heap.size w w' := by
 have hur := U_le r
 have hun := U_le n
 go_enter Try.func59, Try.ntmps59
 go_upto_region 1 with fail
 have hb0 := blk_new w (.cells #[.int .i64 k, .int .i64 r, .int .i64 n] 105)
 have hB0 := below_alloc (Below.refl w.heap.size w) (.cells #[.int .i64 k, .int .i64 r, .int .i64 n] 105)
 obtain ⟨w0, hw0⟩ : ∃ w0, w0 = w.alloc (.cells #[.int .i64 k, .int .i64 r, .int .i64 n] 105) := ⟨_, rfl⟩
 rw [← hw0] at hb0 hB0 ⊢
 clear hw0
 have HB0 := am hB0
 have HG := am hb0
 have HM := am hm
 have hk := mayB_k hm
 have y0 : w0.cell? ⟨w.heap.size, 0, none⟩ = some (.int .i64 k) := (blk_cell hb0 0).trans rfl
 have y1 : w0.cell? ⟨w.heap.size, 1, none⟩ = some (.int .i64 r) := (blk_cell hb0 1).trans rfl
 have y2 : w0.cell? ⟨w.heap.size, 2, none⟩ = some (.int .i64 n) := (blk_cell hb0 2).trans rfl
 clear hb0 hB0 hm
 rcases hk with rfl | rfl | rfl | rfl | rfl | rfl | rfl | rfl | rfl | rfl | rfl
 ·
  skip
  go_wp2_with ((with_reducible refine gate_dst (N := 136) rfl ?_); refine stopB ?stop)
  case stop =>
   unfold StopB
   refine Kd.R_lit (Kd.int .u8) _ 5 ?hg (N := 136) ?hd (xs := ([0] : List Int)) (inner := [.int .u8 (0)]) (ok := fun _ => True) (okp := fun _ => True) ?hr (Reps.one (show Kd.M (Kd.int .u8) _ _ _ (0) [.int .u8 (0)] from rfl) (Reps.none _ _)) (fun _ hk => hk) trivial (Below.refl _ _) (Nat.le_refl _) (by simp) ?_
   case hd => rfl
   case hg => rfl
   case hr => first | (go_simp; done) | (go_simp; rfl)
   intro v3 w3 hR3 hB3 _ _
   go_wp2
   go_ret
   exact ⟨_, rfl, Kd.R_lower (by rw [show opB 0 r n = [0] from rfl]; exact hR3) HB0.out.size, below_then HB0.out HB0.out.size hB3⟩
 ·
  obtain ⟨h0, h1⟩ := may1 HM.out
  by_cases e0 : n < 64
  ·
   have d0 : decide (n < 64) = true := decide_eq_true e0
   go_wp2_with ((with_reducible refine gate_dst (N := 15) rfl ?_); refine stopB ?stop)
   case stop =>
    unfold StopB
    refine Kd.R_lit (Kd.int .u8) _ 5 ?hg (N := 15) ?hd (xs := ([64 + n] : List Int)) (inner := [.int .u8 (64 + n)]) (ok := fun _ => True) (okp := fun _ => True) ?hr (Reps.one (show Kd.M (Kd.int .u8) _ _ _ (64 + n) [.int .u8 (64 + n)] from rfl) (Reps.none _ _)) (fun _ hk => hk) trivial (Below.refl _ _) (Nat.le_refl _) (by simp) ?_
    case hd => rfl
    case hg => rfl
    case hr => first | (go_simp; done) | (go_simp; rfl)
    intro v3 w3 hR3 hB3 _ _
    go_wp2
    go_ret
    exact ⟨_, rfl, Kd.R_lower (by rw [show opB 1 r n = [(64 + n) % 256] from if_pos (show n < 64 by omega), show (64 + n) % 256 = 64 + n by omega]; exact hR3) HB0.out.size, below_then HB0.out HB0.out.size hB3⟩
  have d0 : decide (n < 64) = false := decide_eq_false e0
  by_cases e1 : n < 256
  ·
   have d1 : decide (n < 256) = true := decide_eq_true e1
   go_wp2_with ((with_reducible refine gate_dst (N := 23) rfl ?_); refine stopB ?stop)
   case stop =>
    unfold StopB
    refine Kd.R_lit (Kd.int .u8) _ 5 ?hg (N := 23) ?hd (xs := ([2, n] : List Int)) (inner := [.int .u8 (2), .int .u8 (n)]) (ok := fun _ => True) (okp := fun _ => True) ?hr (Reps.one (show Kd.M (Kd.int .u8) _ _ _ (2) [.int .u8 (2)] from rfl) (Reps.one (show Kd.M (Kd.int .u8) _ _ _ (n) [.int .u8 (n)] from rfl) (Reps.none _ _))) (fun _ hk => hk) trivial (Below.refl _ _) (Nat.le_refl _) (by simp) ?_
    case hd => rfl
    case hg => rfl
    case hr => first | (go_simp; done) | (go_simp; rfl)
    intro v3 w3 hR3 hB3 _ _
    go_wp2
    go_ret
    exact ⟨_, rfl, Kd.R_lower (by rw [show opB 1 r n = [2, n % 256] from (if_neg (show ¬ n < 64 by omega)).trans (if_pos (show n < 256 by omega)), show n % 256 = n by omega]; exact hR3) HB0.out.size, below_then HB0.out HB0.out.size hB3⟩
  have d1 : decide (n < 256) = false := decide_eq_false e1
  by_cases e2 : n < 65536
  ·
   have d2 : decide (n < 65536) = true := decide_eq_true e2
   go_wp2_with ((with_reducible refine gate_dst (N := 35) rfl ?_); refine stopB ?stop)
   case stop =>
    unfold StopB
    refine Kd.R_lit (Kd.int .u8) _ 5 ?hg (N := 35) ?hd (xs := ([3, n % 256, n / 256] : List Int)) (inner := [.int .u8 (3), .int .u8 (n % 256), .int .u8 (n / 256)]) (ok := fun _ => True) (okp := fun _ => True) ?hr (Reps.one (show Kd.M (Kd.int .u8) _ _ _ (3) [.int .u8 (3)] from rfl) (Reps.one (show Kd.M (Kd.int .u8) _ _ _ (n % 256) [.int .u8 (n % 256)] from rfl) (Reps.one (show Kd.M (Kd.int .u8) _ _ _ (n / 256) [.int .u8 (n / 256)] from rfl) (Reps.none _ _)))) (fun _ hk => hk) trivial (Below.refl _ _) (Nat.le_refl _) (by simp) ?_
    case hd => rfl
    case hg => rfl
    case hr => first | (go_simp; done) | (go_simp; rfl)
    intro v3 w3 hR3 hB3 _ _
    go_wp2
    go_ret
    exact ⟨_, rfl, Kd.R_lower (by rw [show opB 1 r n = [3, n % 256, n / 256 % 256] from (if_neg (show ¬ n < 64 by omega)).trans ((if_neg (show ¬ n < 256 by omega)).trans (if_pos (show n < 65536 by omega))), show n / 256 % 256 = n / 256 by omega]; exact hR3) HB0.out.size, below_then HB0.out HB0.out.size hB3⟩
  have d2 : decide (n < 65536) = false := decide_eq_false e2
  go_wp2_with ((with_reducible refine gate_dst (N := 51) rfl ?_); refine stopB ?stop)
  case stop =>
   unfold StopB
   refine Kd.R_lit (Kd.int .u8) _ 5 ?hg (N := 51) ?hd (xs := ([4, n % 256, n / 256 % 256, n / 65536 % 256, n / 16777216] : List Int)) (inner := [.int .u8 (4), .int .u8 (n % 256), .int .u8 (n / 256 % 256), .int .u8 (n / 65536 % 256), .int .u8 (n / 16777216)]) (ok := fun _ => True) (okp := fun _ => True) ?hr (Reps.one (show Kd.M (Kd.int .u8) _ _ _ (4) [.int .u8 (4)] from rfl) (Reps.one (show Kd.M (Kd.int .u8) _ _ _ (n % 256) [.int .u8 (n % 256)] from rfl) (Reps.one (show Kd.M (Kd.int .u8) _ _ _ (n / 256 % 256) [.int .u8 (n / 256 % 256)] from rfl) (Reps.one (show Kd.M (Kd.int .u8) _ _ _ (n / 65536 % 256) [.int .u8 (n / 65536 % 256)] from rfl) (Reps.one (show Kd.M (Kd.int .u8) _ _ _ (n / 16777216) [.int .u8 (n / 16777216)] from rfl) (Reps.none _ _)))))) (fun _ hk => hk) trivial (Below.refl _ _) (Nat.le_refl _) (by simp) ?_
   case hd => rfl
   case hg => rfl
   case hr => first | (go_simp; done) | (go_simp; rfl)
   intro v3 w3 hR3 hB3 _ _
   go_wp2
   go_ret
   exact ⟨_, rfl, Kd.R_lower (by rw [show opB 1 r n = [4, n % 256, n / 256 % 256, n / 65536 % 256, n / 16777216 % 256] from (if_neg (show ¬ n < 64 by omega)).trans ((if_neg (show ¬ n < 256 by omega)).trans (if_neg (show ¬ n < 65536 by omega))), show n / 16777216 % 256 = n / 16777216 by omega]; exact hR3) HB0.out.size, below_then HB0.out HB0.out.size hB3⟩
 ·
  skip
  have HSS : Aside0 (∀ u, Below w0.heap.size w0 u → u.cell? ⟨w.heap.size, 1, none⟩ = some (.int .i64 r) ∧ u.cell? ⟨w.heap.size, 2, none⟩ = some (.int .i64 n)) := ⟨fun u hu => ⟨(blk_cell (blk_below HG.out hu) 1).trans rfl, (blk_cell (blk_below HG.out hu) 2).trans rfl⟩⟩
  have HBp : Aside0 (Below w0.heap.size w0 w0.drew) := ⟨below_drew (Below.refl _ _)⟩
  go_upto_region 11 with fail
  clear y0
  refine start_ (n := 10) (S := fun u => u.cell? ⟨w.heap.size, 1, none⟩ = some (.int .i64 r) ∧ u.cell? ⟨w.heap.size, 2, none⟩ = some (.int .i64 n)) (ds := []) (bm 10 0) (by kernel_rfl) rfl rfl ?_ (fun hHeld => ?_)
  case refine_1 => exact HSS.out _ HBp.out
  refine pure_ (i := 1) (N := some 55) (v := ?_) (a' := ?_) (bm 10 2) rfl rfl (by kernel_rfl) (fun _ _ _ h => h) (Or.inl ⟨by rfl, ?_⟩) ?_ ?_
  rotate_left
  ·
   intro u
   go_simp
   with_reducible rfl
  rotate_left
  ·
   simp only [pz]
   rfl
  refine take_ (i := 2) (N := some 56) (v := ?_) (a' := ?_) (bm 10 6) rfl rfl (by kernel_rfl) (fun _ _ _ h => h) (Or.inl ⟨by rfl, ?_⟩) hHeld ?_ ?_
  rotate_left
  ·
   rintro u ⟨s1, s2⟩
   go_simp
   with_reducible rfl
  rotate_left
  ·
   simp only [pz]
   rfl
  refine pure_ (i := 4) (N := some 58) (v := ?_) (a' := ?_) (bm 10 22) rfl rfl (by kernel_rfl) (fun _ _ _ h => h) (Or.inl ⟨by rfl, ?_⟩) ?_ ?_
  rotate_left
  ·
   intro u
   go_simp
   with_reducible rfl
  rotate_left
  ·
   simp only [pz]
   rfl
  refine take_ (i := 5) (N := some 59) (v := ?_) (a' := ?_) (bm 10 54) rfl rfl (by kernel_rfl) (fun _ _ _ h => h) (Or.inl ⟨by rfl, ?_⟩) hHeld ?_ ?_
  rotate_left
  ·
   rintro u ⟨s1, s2⟩
   go_simp
   with_reducible rfl
  rotate_left
  ·
   simp only [pz]
   rfl
  clear hHeld y1 y2
  refine join_ (σ := Value × (Option Addr × Nat) × (Option Addr × Nat) × Nat) 2 (bm 10 255) (fun s => [(54, s.1), (57, .slice s.2.1.1 (U r).length s.2.1.2), (60, .slice s.2.2.1.1 (U n).length s.2.2.1.2), (61, .slice (some ⟨s.2.2.2, 0, none⟩) 2 2)]) (fun s W => Below w0.heap.size w0 W ∧ Own W w0.heap.size s.1 [12] ∧ (Own W w0.heap.size (.slice s.2.1.1 (U r).length s.2.1.2) (U r) ∧ ((.slice s.2.1.1 (U r).length s.2.1.2 : Value).ownBlock = none ∨ (.slice s.2.1.1 (U r).length s.2.1.2 : Value).ownBlock ≠ s.1.ownBlock)) ∧ (Own W w0.heap.size (.slice s.2.2.1.1 (U n).length s.2.2.1.2) (U n) ∧ ((.slice s.2.2.1.1 (U n).length s.2.2.1.2 : Value).ownBlock = none ∨ (.slice s.2.2.1.1 (U n).length s.2.2.1.2 : Value).ownBlock ≠ s.1.ownBlock)) ∧ W.heap[s.2.2.2]? = some (.cells #[.slice s.2.1.1 (U r).length s.2.1.2, .slice s.2.2.1.1 (U n).length s.2.2.1.2] 28 (0, 0))) ?_ ?_
  ·
   rintro ⟨v3, ⟨A0, c0⟩, ⟨A1, c1⟩, g⟩ W ⟨f0, f1, ⟨p0, q0⟩, ⟨p1, q1⟩, fg⟩
   have F0 := am f0
   have F1 := am f1
   have FG := am fg
   have P0 := am (And.intro p0 q0)
   have P1 := am (And.intro p1 q1)
   clear f0 f1 fg p0 q0 p1 q1
   refine norm_ (a' := ?_) ?_ ?_
   rotate_left
   ·
    simp only [putAll, Act.put, List.setIfInBounds_toArray, List.set_cons_zero, List.set_cons_succ]
    rfl
   refine one_ (i := 8) (N := some 62) (bm 10 511) rfl rfl (by kernel_rfl) (by decide) (fun K hK => ?_)
   refine call_ 79 #[v3, .slice (some ⟨g, 0, none⟩) 2 2] (by rfl) rfl (by go_simp) ?_
   refine (put2_calls (wb := w0) F1.out P0.out.1 P1.out.1 P0.out.2 P1.out.2 FG.out (by simp) (by omega) (by omega) F0.out).mono ?_
   rintro e w6 ⟨v6, rfl, hR6, hB6⟩
   refine ⟨_, rfl, ?_⟩
   have HB6 := am hB6
   refine hK.out _ _ (HSS.out _ hB6) (fun _ => ?_)
   clear hK K hB6
   refine norm_ (a' := ?_) ?_ ?_
   rotate_left
   ·
    show Act.put _ (some 62) _ = _
    simp only [pz]
    rfl
   refine pure_ (i := 9) (N := some 2) (v := ?_) (a' := ?_) (bm 10 1023) rfl rfl (by kernel_rfl) (fun _ _ _ h => h) (Or.inl ⟨by rfl, ?_⟩) ?_ ?_
   rotate_left
   ·
    intro u
    go_simp
    with_reducible rfl
   rotate_left
   ·
    simp only [pz]
    rfl
   refine done_ (by kernel_rfl) ?_
   go_wp2
   go_ret
   refine ⟨_, rfl, Kd.R_lower (show Own _ _ _ (opB 2 r n) from ?_) HB0.out.size, below_then HB0.out HB0.out.size HB6.out⟩
   exact hR6
  intro hJ
  refine two_ (i := 0) (j := 3) (Ni := some 54) (Nj := some 57) (bm 10 55) (bm 10 62) rfl rfl rfl rfl (by kernel_rfl) (by decide) (by decide) (fun K hK => ?_) (fun K hK => ?_)
  ·
   skip
   refine Kd.R_lit_step (Kd.int .u8) _ 5 ?hg (N := 54) ?hd (xs := ([12] : List Int)) (inner := [.int .u8 (12)]) (ok := fun _ => True) (okp := fun _ => True) ?hr (Reps.one (show Kd.M (Kd.int .u8) _ _ _ (12) [.int .u8 (12)] from rfl) (Reps.none _ _)) (fun _ hk => hk) trivial (Below.refl _ _) (Nat.le_refl _) (by simp) ?_; (case hd => rfl); (case hg => rfl); (case hr => first | (go_simp; done) | (go_simp; rfl))
   intro vL1 wL1 hR hB _ _
   have HB_1 := am (below_then HBp.out HBp.out.size hB)
   have HL_1 := am (Kd.R_lower hR HBp.out.size)
   clear hB hR
   refine hK.out _ _ (HSS.out _ HB_1.out) (fun _ => ?_)
   clear hK K
   refine norm_ (a' := ?_) ?_ ?_
   rotate_left
   ·
    show Act.put _ (some 54) _ = _
    simp only [pz]
    rfl
   refine one_ (i := 3) (N := some 57) (bm 10 63) rfl rfl (by kernel_rfl) (by decide) (fun K hK => ?_)
   refine call_ 38 #[.int .i64 r] (by rfl) rfl (by go_simp) ?_
   refine (leb_Uleb.calls 10 (r) (U (r)) _ (U_f (r) 10 (by omega))).mono ?_
   rintro e wC2 ⟨xC2, rfl, hR, hB⟩
   refine ⟨_, rfl, ?_⟩
   obtain ⟨AC2, cC2, rfl⟩ := Kd.R_slice hR
   have HB_2 := am (below_then HB_1.out HB_1.out.size hB)
   have HX_2 := am (Kd.R_lower hR HB_1.out.size)
   have N_2_0 := am (own_ne HL_1.out hR).2
   have HL_2 := am (Own.below HL_1.out hB)
   clear hB hR
   refine hK.out _ _ (HSS.out _ HB_2.out) (fun _ => ?_)
   clear hK K
   refine norm_ (a' := ?_) ?_ ?_
   rotate_left
   ·
    show Act.put _ (some 57) _ = _
    simp only [pz]
    rfl
   refine one_ (i := 6) (N := some 60) (bm 10 127) rfl rfl (by kernel_rfl) (by decide) (fun K hK => ?_)
   refine call_ 38 #[.int .i64 n] (by rfl) rfl (by go_simp) ?_
   refine (leb_Uleb.calls 10 (n) (U (n)) _ (U_f (n) 10 (by omega))).mono ?_
   rintro e wC3 ⟨xC3, rfl, hR, hB⟩
   refine ⟨_, rfl, ?_⟩
   obtain ⟨AC3, cC3, rfl⟩ := Kd.R_slice hR
   have HB_3 := am (below_then HB_2.out HB_2.out.size hB)
   have HX_3 := am (Kd.R_lower hR HB_2.out.size)
   have N_3_1 := am (own_ne HL_2.out hR).2
   have HL_3 := am (Own.below HL_2.out hB)
   have HX_3_0 := am (Own.below HX_2.out hB)
   clear hB hR
   refine hK.out _ _ (HSS.out _ HB_3.out) (fun _ => ?_)
   clear hK K
   refine norm_ (a' := ?_) ?_ ?_
   rotate_left
   ·
    show Act.put _ (some 60) _ = _
    simp only [pz]
    rfl
   refine one_ (i := 7) (N := some 61) (bm 10 255) rfl rfl (by kernel_rfl) (by decide) (fun K hK => ?_)
   refine event_step (v := .slice (some ⟨wC3.heap.size, 0, none⟩) 2 2) (w1 := (wC3.alloc (.cells #[.slice AC2 (U r).length cC2, .slice AC3 (U n).length cC3] 28))) rfl (by first | (go_simp; done) | (go_simp; rfl)) ?_
   have hB := below_alloc (Below.refl wC3.heap.size wC3) (.cells #[.slice AC2 (U r).length cC2, .slice AC3 (U n).length cC3] 28)
   have HB_4 := am (below_then HB_3.out HB_3.out.size hB)
   have hg_4 := blk_new wC3 (.cells #[.slice AC2 (U r).length cC2, .slice AC3 (U n).length cC3] 28)
   have HL_4 := am (Own.below HL_3.out hB)
   have HX_4_0 := am (Own.below HX_3_0.out hB)
   have HX_4_1 := am (Own.below HX_3.out hB)
   clear hB
   refine hK.out _ _ (HSS.out _ HB_4.out) (fun _ => ?_)
   clear hK K
   refine norm_ (a' := ?_) ?_ ?_
   rotate_left
   ·
    show Act.put _ (some 61) _ = _
    simp only [pz]
    rfl
   exact norm_ (by first | (simp only [putAll, Act.put, List.setIfInBounds_toArray, List.set_cons_zero, List.set_cons_succ]; done) | (simp only [putAll, Act.put, List.setIfInBounds_toArray, List.set_cons_zero, List.set_cons_succ]; rfl)) (hJ (vL1, (AC2, cC2), (AC3, cC3), wC3.heap.size) _ ⟨HB_4.out, HL_4.out, ⟨HX_4_0.out, N_2_0.out⟩, ⟨HX_4_1.out, N_3_1.out⟩, hg_4⟩)
  skip
  refine call_ 38 #[.int .i64 r] (by rfl) rfl (by go_simp) ?_
  refine (leb_Uleb.calls 10 (r) (U (r)) _ (U_f (r) 10 (by omega))).mono ?_
  rintro e wC5 ⟨xC5, rfl, hR, hB⟩
  refine ⟨_, rfl, ?_⟩
  obtain ⟨AC5, cC5, rfl⟩ := Kd.R_slice hR
  have HB_5 := am (below_then HBp.out HBp.out.size hB)
  have HX_5 := am (Kd.R_lower hR HBp.out.size)
  clear hB hR
  refine hK.out _ _ (HSS.out _ HB_5.out) (fun _ => ?_)
  clear hK K
  refine norm_ (a' := ?_) ?_ ?_
  rotate_left
  ·
   show Act.put _ (some 57) _ = _
   simp only [pz]
   rfl
  refine two_ (i := 0) (j := 6) (Ni := some 54) (Nj := some 60) (bm 10 63) (bm 10 126) rfl rfl rfl rfl (by kernel_rfl) (by decide) (by decide) (fun K hK => ?_) (fun K hK => ?_)
  ·
   skip
   refine Kd.R_lit_step (Kd.int .u8) _ 5 ?hg (N := 54) ?hd (xs := ([12] : List Int)) (inner := [.int .u8 (12)]) (ok := fun _ => True) (okp := fun _ => True) ?hr (Reps.one (show Kd.M (Kd.int .u8) _ _ _ (12) [.int .u8 (12)] from rfl) (Reps.none _ _)) (fun _ hk => hk) trivial (Below.refl _ _) (Nat.le_refl _) (by simp) ?_; (case hd => rfl); (case hg => rfl); (case hr => first | (go_simp; done) | (go_simp; rfl))
   intro vL6 wL6 hR hB _ _
   have HB_6 := am (below_then HB_5.out HB_5.out.size hB)
   have HL_6 := am (Kd.R_lower hR HB_5.out.size)
   have N_6_0 := am (own_ne HX_5.out hR).1
   have HX_6_0 := am (Own.below HX_5.out hB)
   clear hB hR
   refine hK.out _ _ (HSS.out _ HB_6.out) (fun _ => ?_)
   clear hK K
   refine norm_ (a' := ?_) ?_ ?_
   rotate_left
   ·
    show Act.put _ (some 54) _ = _
    simp only [pz]
    rfl
   refine one_ (i := 6) (N := some 60) (bm 10 127) rfl rfl (by kernel_rfl) (by decide) (fun K hK => ?_)
   refine call_ 38 #[.int .i64 n] (by rfl) rfl (by go_simp) ?_
   refine (leb_Uleb.calls 10 (n) (U (n)) _ (U_f (n) 10 (by omega))).mono ?_
   rintro e wC7 ⟨xC7, rfl, hR, hB⟩
   refine ⟨_, rfl, ?_⟩
   obtain ⟨AC7, cC7, rfl⟩ := Kd.R_slice hR
   have HB_7 := am (below_then HB_6.out HB_6.out.size hB)
   have HX_7 := am (Kd.R_lower hR HB_6.out.size)
   have N_7_1 := am (own_ne HL_6.out hR).2
   have HL_7 := am (Own.below HL_6.out hB)
   have HX_7_0 := am (Own.below HX_6_0.out hB)
   clear hB hR
   refine hK.out _ _ (HSS.out _ HB_7.out) (fun _ => ?_)
   clear hK K
   refine norm_ (a' := ?_) ?_ ?_
   rotate_left
   ·
    show Act.put _ (some 60) _ = _
    simp only [pz]
    rfl
   refine one_ (i := 7) (N := some 61) (bm 10 255) rfl rfl (by kernel_rfl) (by decide) (fun K hK => ?_)
   refine event_step (v := .slice (some ⟨wC7.heap.size, 0, none⟩) 2 2) (w1 := (wC7.alloc (.cells #[.slice AC5 (U r).length cC5, .slice AC7 (U n).length cC7] 28))) rfl (by first | (go_simp; done) | (go_simp; rfl)) ?_
   have hB := below_alloc (Below.refl wC7.heap.size wC7) (.cells #[.slice AC5 (U r).length cC5, .slice AC7 (U n).length cC7] 28)
   have HB_8 := am (below_then HB_7.out HB_7.out.size hB)
   have hg_8 := blk_new wC7 (.cells #[.slice AC5 (U r).length cC5, .slice AC7 (U n).length cC7] 28)
   have HL_8 := am (Own.below HL_7.out hB)
   have HX_8_0 := am (Own.below HX_7_0.out hB)
   have HX_8_1 := am (Own.below HX_7.out hB)
   clear hB
   refine hK.out _ _ (HSS.out _ HB_8.out) (fun _ => ?_)
   clear hK K
   refine norm_ (a' := ?_) ?_ ?_
   rotate_left
   ·
    show Act.put _ (some 61) _ = _
    simp only [pz]
    rfl
   exact norm_ (by first | (simp only [putAll, Act.put, List.setIfInBounds_toArray, List.set_cons_zero, List.set_cons_succ]; done) | (simp only [putAll, Act.put, List.setIfInBounds_toArray, List.set_cons_zero, List.set_cons_succ]; rfl)) (hJ (vL6, (AC5, cC5), (AC7, cC7), wC7.heap.size) _ ⟨HB_8.out, HL_8.out, ⟨HX_8_0.out, N_6_0.out⟩, ⟨HX_8_1.out, N_7_1.out⟩, hg_8⟩)
  skip
  refine call_ 38 #[.int .i64 n] (by rfl) rfl (by go_simp) ?_
  refine (leb_Uleb.calls 10 (n) (U (n)) _ (U_f (n) 10 (by omega))).mono ?_
  rintro e wC9 ⟨xC9, rfl, hR, hB⟩
  refine ⟨_, rfl, ?_⟩
  obtain ⟨AC9, cC9, rfl⟩ := Kd.R_slice hR
  have HB_9 := am (below_then HB_5.out HB_5.out.size hB)
  have HX_9 := am (Kd.R_lower hR HB_5.out.size)
  have HX_9_0 := am (Own.below HX_5.out hB)
  clear hB hR
  refine hK.out _ _ (HSS.out _ HB_9.out) (fun _ => ?_)
  clear hK K
  refine norm_ (a' := ?_) ?_ ?_
  rotate_left
  ·
   show Act.put _ (some 60) _ = _
   simp only [pz]
   rfl
  refine two_ (i := 0) (j := 7) (Ni := some 54) (Nj := some 61) (bm 10 127) (bm 10 254) rfl rfl rfl rfl (by kernel_rfl) (by decide) (by decide) (fun K hK => ?_) (fun K hK => ?_)
  ·
   skip
   refine Kd.R_lit_step (Kd.int .u8) _ 5 ?hg (N := 54) ?hd (xs := ([12] : List Int)) (inner := [.int .u8 (12)]) (ok := fun _ => True) (okp := fun _ => True) ?hr (Reps.one (show Kd.M (Kd.int .u8) _ _ _ (12) [.int .u8 (12)] from rfl) (Reps.none _ _)) (fun _ hk => hk) trivial (Below.refl _ _) (Nat.le_refl _) (by simp) ?_; (case hd => rfl); (case hg => rfl); (case hr => first | (go_simp; done) | (go_simp; rfl))
   intro vL10 wL10 hR hB _ _
   have HB_10 := am (below_then HB_9.out HB_9.out.size hB)
   have HL_10 := am (Kd.R_lower hR HB_9.out.size)
   have N_10_0 := am (own_ne HX_9_0.out hR).1
   have N_10_1 := am (own_ne HX_9.out hR).1
   have HX_10_0 := am (Own.below HX_9_0.out hB)
   have HX_10_1 := am (Own.below HX_9.out hB)
   clear hB hR
   refine hK.out _ _ (HSS.out _ HB_10.out) (fun _ => ?_)
   clear hK K
   refine norm_ (a' := ?_) ?_ ?_
   rotate_left
   ·
    show Act.put _ (some 54) _ = _
    simp only [pz]
    rfl
   refine one_ (i := 7) (N := some 61) (bm 10 255) rfl rfl (by kernel_rfl) (by decide) (fun K hK => ?_)
   refine event_step (v := .slice (some ⟨wL10.heap.size, 0, none⟩) 2 2) (w1 := (wL10.alloc (.cells #[.slice AC5 (U r).length cC5, .slice AC9 (U n).length cC9] 28))) rfl (by first | (go_simp; done) | (go_simp; rfl)) ?_
   have hB := below_alloc (Below.refl wL10.heap.size wL10) (.cells #[.slice AC5 (U r).length cC5, .slice AC9 (U n).length cC9] 28)
   have HB_11 := am (below_then HB_10.out HB_10.out.size hB)
   have hg_11 := blk_new wL10 (.cells #[.slice AC5 (U r).length cC5, .slice AC9 (U n).length cC9] 28)
   have HL_11 := am (Own.below HL_10.out hB)
   have HX_11_0 := am (Own.below HX_10_0.out hB)
   have HX_11_1 := am (Own.below HX_10_1.out hB)
   clear hB
   refine hK.out _ _ (HSS.out _ HB_11.out) (fun _ => ?_)
   clear hK K
   refine norm_ (a' := ?_) ?_ ?_
   rotate_left
   ·
    show Act.put _ (some 61) _ = _
    simp only [pz]
    rfl
   exact norm_ (by first | (simp only [putAll, Act.put, List.setIfInBounds_toArray, List.set_cons_zero, List.set_cons_succ]; done) | (simp only [putAll, Act.put, List.setIfInBounds_toArray, List.set_cons_zero, List.set_cons_succ]; rfl)) (hJ (vL10, (AC5, cC5), (AC9, cC9), wL10.heap.size) _ ⟨HB_11.out, HL_11.out, ⟨HX_11_0.out, N_10_0.out⟩, ⟨HX_11_1.out, N_10_1.out⟩, hg_11⟩)
  skip
  refine event_step (v := .slice (some ⟨wC9.heap.size, 0, none⟩) 2 2) (w1 := (wC9.alloc (.cells #[.slice AC5 (U r).length cC5, .slice AC9 (U n).length cC9] 28))) rfl (by first | (go_simp; done) | (go_simp; rfl)) ?_
  have hB := below_alloc (Below.refl wC9.heap.size wC9) (.cells #[.slice AC5 (U r).length cC5, .slice AC9 (U n).length cC9] 28)
  have HB_12 := am (below_then HB_9.out HB_9.out.size hB)
  have hg_12 := blk_new wC9 (.cells #[.slice AC5 (U r).length cC5, .slice AC9 (U n).length cC9] 28)
  have HX_12_0 := am (Own.below HX_9_0.out hB)
  have HX_12_1 := am (Own.below HX_9.out hB)
  clear hB
  refine hK.out _ _ (HSS.out _ HB_12.out) (fun _ => ?_)
  clear hK K
  refine norm_ (a' := ?_) ?_ ?_
  rotate_left
  ·
   show Act.put _ (some 61) _ = _
   simp only [pz]
   rfl
  refine one_ (i := 0) (N := some 54) (bm 10 255) rfl rfl (by kernel_rfl) (by decide) (fun K hK => ?_)
  refine Kd.R_lit_step (Kd.int .u8) _ 5 ?hg (N := 54) ?hd (xs := ([12] : List Int)) (inner := [.int .u8 (12)]) (ok := fun _ => True) (okp := fun _ => True) ?hr (Reps.one (show Kd.M (Kd.int .u8) _ _ _ (12) [.int .u8 (12)] from rfl) (Reps.none _ _)) (fun _ hk => hk) trivial (Below.refl _ _) (Nat.le_refl _) (by simp) ?_; (case hd => rfl); (case hg => rfl); (case hr => first | (go_simp; done) | (go_simp; rfl))
  intro vL13 wL13 hR hB _ _
  have HB_13 := am (below_then HB_12.out HB_12.out.size hB)
  have HL_13 := am (Kd.R_lower hR HB_12.out.size)
  have N_13_0 := am (own_ne HX_12_0.out hR).1
  have N_13_1 := am (own_ne HX_12_1.out hR).1
  have HX_13_0 := am (Own.below HX_12_0.out hB)
  have HX_13_1 := am (Own.below HX_12_1.out hB)
  have hg_13 := blk_below hg_12 hB
  clear hB hR
  refine hK.out _ _ (HSS.out _ HB_13.out) (fun _ => ?_)
  clear hK K
  refine norm_ (a' := ?_) ?_ ?_
  rotate_left
  ·
   show Act.put _ (some 54) _ = _
   simp only [pz]
   rfl
  exact norm_ (by first | (simp only [putAll, Act.put, List.setIfInBounds_toArray, List.set_cons_zero, List.set_cons_succ]; done) | (simp only [putAll, Act.put, List.setIfInBounds_toArray, List.set_cons_zero, List.set_cons_succ]; rfl)) (hJ (vL13, (AC5, cC5), (AC9, cC9), wC9.heap.size) _ ⟨HB_13.out, HL_13.out, ⟨HX_13_0.out, N_13_0.out⟩, ⟨HX_13_1.out, N_13_1.out⟩, hg_13⟩)
 ·
  skip
  go_wp2_with ((with_reducible refine gate_dst (N := 73) rfl ?_); refine stopB ?stop)
  case stop =>
   unfold StopB
   refine Kd.R_lit (Kd.int .u8) _ 5 ?hg (N := 73) ?hd (xs := ([14] : List Int)) (inner := [.int .u8 (14)]) (ok := fun _ => True) (okp := fun _ => True) ?hr (Reps.one (show Kd.M (Kd.int .u8) _ _ _ (14) [.int .u8 (14)] from rfl) (Reps.none _ _)) (fun _ hk => hk) trivial (Below.refl _ _) (Nat.le_refl _) (by simp) ?_
   case hd => rfl
   case hg => rfl
   case hr => first | (go_simp; done) | (go_simp; rfl)
   intro v3 w3 hR3 hB3 _ _
   have HV := am (Kd.R_lower hR3 (Nat.le_refl _))
   have z2 : w3.cell? ⟨w.heap.size, 2, none⟩ = some (.int .i64 n) := (blk_cell (blk_below HG.out hB3) 2).trans rfl
   have HB3 := am hB3
   clear hB3 y0 y1 y2 hR3
   go_wp2_with fail
   refine (leb_Uleb.calls 10 n (U n) w3 (U_f n 10 (by omega))).mono ?_
   rintro e w4 ⟨v4, rfl, hR4, hB4⟩
   have HN := am (own_ne HV.out hR4).2
   have HV4 := am (Own.below HV.out hB4)
   have HB4 := am (below_then HB3.out HB3.out.size hB4)
   have HX := am (Kd.R_lower hR4 HB3.out.size)
   obtain ⟨A4, c4, rfl⟩ := Kd.R_slice hR4
   clear hR4 hB4
   go_wp2_with fail
   have hG5 := blk_new w4 (.cells #[.slice A4 (U n).length c4] 28)
   have hB5 := below_alloc (Below.refl w4.heap.size w4) (.cells #[.slice A4 (U n).length c4] 28)
   obtain ⟨w5, hw5⟩ : ∃ w5, w5 = w4.alloc (.cells #[.slice A4 (U n).length c4] 28) := ⟨_, rfl⟩
   rw [← hw5] at hG5 hB5 ⊢
   refine (put1_calls (wb := w0) (Own.below HV4.out hB5) (Own.below HX.out hB5) HN.out hG5 (by simp) (by omega) (below_then HB4.out HB4.out.size hB5)).mono ?_
   rintro e w6 ⟨u, rfl, hR6, hB6⟩
   go_wp2
   go_ret
   exact ⟨_, rfl, Kd.R_lower (show Own _ _ _ (opB 3 r n) from hR6) HB0.out.size, below_then HB0.out HB0.out.size hB6⟩
 ·
  skip
  go_wp2_with ((with_reducible refine gate_dst (N := 65) rfl ?_); refine stopB ?stop)
  case stop =>
   unfold StopB
   refine Kd.R_lit (Kd.int .u8) _ 5 ?hg (N := 65) ?hd (xs := ([13] : List Int)) (inner := [.int .u8 (13)]) (ok := fun _ => True) (okp := fun _ => True) ?hr (Reps.one (show Kd.M (Kd.int .u8) _ _ _ (13) [.int .u8 (13)] from rfl) (Reps.none _ _)) (fun _ hk => hk) trivial (Below.refl _ _) (Nat.le_refl _) (by simp) ?_
   case hd => rfl
   case hg => rfl
   case hr => first | (go_simp; done) | (go_simp; rfl)
   intro v3 w3 hR3 hB3 _ _
   have HV := am (Kd.R_lower hR3 (Nat.le_refl _))
   have z1 : w3.cell? ⟨w.heap.size, 1, none⟩ = some (.int .i64 r) := (blk_cell (blk_below HG.out hB3) 1).trans rfl
   have HB3 := am hB3
   clear hB3 y0 y1 y2 hR3
   go_wp2_with fail
   refine (leb_Uleb.calls 10 r (U r) w3 (U_f r 10 (by omega))).mono ?_
   rintro e w4 ⟨v4, rfl, hR4, hB4⟩
   have HN := am (own_ne HV.out hR4).2
   have HV4 := am (Own.below HV.out hB4)
   have HB4 := am (below_then HB3.out HB3.out.size hB4)
   have HX := am (Kd.R_lower hR4 HB3.out.size)
   obtain ⟨A4, c4, rfl⟩ := Kd.R_slice hR4
   clear hR4 hB4
   go_wp2_with fail
   have hG5 := blk_new w4 (.cells #[.slice A4 (U r).length c4] 28)
   have hB5 := below_alloc (Below.refl w4.heap.size w4) (.cells #[.slice A4 (U r).length c4] 28)
   obtain ⟨w5, hw5⟩ : ∃ w5, w5 = w4.alloc (.cells #[.slice A4 (U r).length c4] 28) := ⟨_, rfl⟩
   rw [← hw5] at hG5 hB5 ⊢
   refine (put1_calls (wb := w0) (Own.below HV4.out hB5) (Own.below HX.out hB5) HN.out hG5 (by simp) (by omega) (below_then HB4.out HB4.out.size hB5)).mono ?_
   rintro e w6 ⟨u, rfl, hR6, hB6⟩
   go_wp2
   go_ret
   exact ⟨_, rfl, Kd.R_lower (show Own _ _ _ (opB 4 r n) from hR6) HB0.out.size, below_then HB0.out HB0.out.size hB6⟩
 ·
  obtain ⟨m, rfl, h1, h2, h3, h4⟩ := may5 HM.out
  have e : 8 * m / 8 = m := Int.mul_ediv_cancel_left m (by decide)
  have HQ := am (show wrap64 ((wrap64 (-(8 * m))).tdiv 8) = -m from by rw [wrap64_id (n := -(8 * m)) (by omega) (by omega), show -(8 * m) = 8 * (-m) from by omega, Int.mul_tdiv_cancel_left (-m) (show (8 : Int) ≠ 0 by decide), wrap64_id (by omega) (by omega)])
  have HWR := am (show IntKind.u8.wrap (128 + IntKind.u8.wrap r) = (128 + r) % 256 from by show (128 + r % 256) % 256 = (128 + r) % 256; omega)
  have HE := am e
  have hum := U_le (-m)
  have hsm := S_le (a := -m) (by omega) (by omega)
  clear e
  by_cases hd : 8 * m ≤ 0
  ·
   have hdd : decide (8 * m ≤ 0) = true := decide_eq_true hd
   have HSS : Aside0 (∀ u, Below w0.heap.size w0 u → u.cell? ⟨w.heap.size, 1, none⟩ = some (.int .i64 r) ∧ u.cell? ⟨w.heap.size, 2, none⟩ = some (.int .i64 (8 * m))) := ⟨fun u hu => ⟨(blk_cell (blk_below HG.out hu) 1).trans rfl, (blk_cell (blk_below HG.out hu) 2).trans rfl⟩⟩
   have HBp : Aside0 (Below w0.heap.size w0 w0.drew) := ⟨below_drew (Below.refl _ _)⟩
   go_upto_region 18 with fail
   clear y0
   refine start_ (n := 13) (S := fun u => u.cell? ⟨w.heap.size, 1, none⟩ = some (.int .i64 r) ∧ u.cell? ⟨w.heap.size, 2, none⟩ = some (.int .i64 (8 * m))) (ds := []) (bm 13 0) (by kernel_rfl) rfl rfl ?_ (fun hHeld => ?_)
   case refine_1 => exact HSS.out _ HBp.out
   refine pure_ (i := 0) (N := some 84) (v := ?_) (a' := ?_) (bm 13 1) rfl rfl (by kernel_rfl) (fun _ _ _ h => h) (Or.inl ⟨by rfl, ?_⟩) ?_ ?_
   rotate_left
   ·
    intro u
    go_simp
    with_reducible rfl
   rotate_left
   ·
    simp only [pz]
    rfl
   refine take_ (i := 1) (N := some 85) (v := ?_) (a' := ?_) (bm 13 3) rfl rfl (by kernel_rfl) (fun _ _ _ h => h) (Or.inl ⟨by rfl, ?_⟩) hHeld ?_ ?_
   rotate_left
   ·
    rintro u ⟨s1, s2⟩
    go_simp
    with_reducible rfl
   rotate_left
   ·
    simp only [pz]
    rfl
   refine pure_ (i := 2) (N := some 86) (v := ?_) (a' := ?_) (bm 13 7) rfl rfl (by kernel_rfl) (fun _ _ _ h => h) (Or.inl ⟨by rfl, ?_⟩) ?_ ?_
   rotate_left
   ·
    intro u
    go_simp
    with_reducible rfl
   rotate_left
   ·
    simp only [pz]
    rfl
   refine pure_ (i := 3) (N := some 87) (v := ?_) (a' := ?_) (bm 13 15) rfl rfl (by kernel_rfl) (fun _ _ _ h => h) (Or.inl ⟨by rfl, ?_⟩) ?_ ?_
   rotate_left
   ·
    intro u
    go_simp
    with_reducible rfl
   rotate_left
   ·
    simp only [pz]
    rfl
   refine pure_ (i := 5) (N := some 89) (v := ?_) (a' := ?_) (bm 13 47) rfl rfl (by kernel_rfl) (fun _ _ _ h => h) (Or.inl ⟨by rfl, ?_⟩) ?_ ?_
   rotate_left
   ·
    intro u
    go_simp
    with_reducible rfl
   rotate_left
   ·
    simp only [pz]
    rfl
   refine take_ (i := 6) (N := some 90) (v := ?_) (a' := ?_) (bm 13 111) rfl rfl (by kernel_rfl) (fun _ _ _ h => h) (Or.inl ⟨by rfl, ?_⟩) hHeld ?_ ?_
   rotate_left
   ·
    rintro u ⟨s1, s2⟩
    go_simp
    with_reducible rfl
   rotate_left
   ·
    simp only [pz]
    rfl
   refine pure_ (i := 7) (N := some 91) (v := ?_) (a' := ?_) (bm 13 239) rfl rfl (by kernel_rfl) (fun _ _ _ h => h) (Or.inl ⟨by rfl, ?_⟩) ?_ ?_
   rotate_left
   ·
    intro u
    go_simp
    with_reducible rfl
   rotate_left
   ·
    simp only [pz]
    rfl
   refine pure_ (i := 8) (N := some 92) (v := ?_) (a' := ?_) (bm 13 495) rfl rfl (by kernel_rfl) (fun _ _ _ h => h) (Or.inl ⟨by rfl, ?_⟩) ?_ ?_
   rotate_left
   ·
    intro u
    go_simp
    with_reducible rfl
   rotate_left
   ·
    simp only [pz]
    rfl
   clear hHeld y1 y2
   refine join_ (σ := Value × (Option Addr × Nat) × Nat) 2 (bm 13 2047) (fun s => [(88, s.1), (93, .slice s.2.1.1 (U (-m)).length s.2.1.2), (94, .slice (some ⟨s.2.2, 0, none⟩) 1 1)]) (fun s W => Below w0.heap.size w0 W ∧ Own W w0.heap.size s.1 [IntKind.u8.wrap (128 + IntKind.u8.wrap r)] ∧ (Own W w0.heap.size (.slice s.2.1.1 (U (-m)).length s.2.1.2) (U (-m)) ∧ ((.slice s.2.1.1 (U (-m)).length s.2.1.2 : Value).ownBlock = none ∨ (.slice s.2.1.1 (U (-m)).length s.2.1.2 : Value).ownBlock ≠ s.1.ownBlock)) ∧ W.heap[s.2.2]? = some (.cells #[.slice s.2.1.1 (U (-m)).length s.2.1.2] 28 (0, 0))) ?_ ?_
   ·
    rintro ⟨v3, ⟨A0, c0⟩, g⟩ W ⟨f0, f1, ⟨p0, q0⟩, fg⟩
    have F0 := am f0
    have F1 := am f1
    have FG := am fg
    have P0 := am (And.intro p0 q0)
    clear f0 f1 fg p0 q0
    refine norm_ (a' := ?_) ?_ ?_
    rotate_left
    ·
     simp only [putAll, Act.put, List.setIfInBounds_toArray, List.set_cons_zero, List.set_cons_succ]
     rfl
    refine one_ (i := 11) (N := some 95) (bm 13 4095) rfl rfl (by kernel_rfl) (by decide) (fun K hK => ?_)
    refine call_ 79 #[v3, .slice (some ⟨g, 0, none⟩) 1 1] (by rfl) rfl (by go_simp) ?_
    refine (put1_calls (wb := w0) F1.out P0.out.1 P0.out.2 FG.out (by simp) (by omega) F0.out).mono ?_
    rintro e w6 ⟨v6, rfl, hR6, hB6⟩
    refine ⟨_, rfl, ?_⟩
    have HB6 := am hB6
    refine hK.out _ _ (HSS.out _ hB6) (fun _ => ?_)
    clear hK K hB6
    refine norm_ (a' := ?_) ?_ ?_
    rotate_left
    ·
     show Act.put _ (some 95) _ = _
     simp only [pz]
     rfl
    refine pure_ (i := 12) (N := some 2) (v := ?_) (a' := ?_) (bm 13 8191) rfl rfl (by kernel_rfl) (fun _ _ _ h => h) (Or.inl ⟨by rfl, ?_⟩) ?_ ?_
    rotate_left
    ·
     intro u
     go_simp
     with_reducible rfl
    rotate_left
    ·
     simp only [pz]
     rfl
    refine done_ (by kernel_rfl) ?_
    go_wp2
    go_ret
    refine ⟨_, rfl, Kd.R_lower (show Own _ _ _ (opB 5 r (8 * m)) from ?_) HB0.out.size, below_then HB0.out HB0.out.size HB6.out⟩
    rw [show opB 5 r (8 * m) = [(128 + r) % 256] ++ U (-(8 * m / 8)) from if_pos (show 8 * m ≤ 0 by omega), HE.out, ← HWR.out]
    exact hR6
   intro hJ
   refine two_ (i := 4) (j := 9) (Ni := some 88) (Nj := some 93) (bm 13 511) (bm 13 1007) rfl rfl rfl rfl (by kernel_rfl) (by decide) (by decide) (fun K hK => ?_) (fun K hK => ?_)
   ·
    skip
    refine Kd.R_lit_step (Kd.int .u8) _ 5 ?hg (N := 88) ?hd (xs := ([IntKind.u8.wrap (128 + IntKind.u8.wrap r)] : List Int)) (inner := [.int .u8 (IntKind.u8.wrap (128 + IntKind.u8.wrap r))]) (ok := fun _ => True) (okp := fun _ => True) ?hr (Reps.one (show Kd.M (Kd.int .u8) _ _ _ (IntKind.u8.wrap (128 + IntKind.u8.wrap r)) [.int .u8 (IntKind.u8.wrap (128 + IntKind.u8.wrap r))] from rfl) (Reps.none _ _)) (fun _ hk => hk) trivial (Below.refl _ _) (Nat.le_refl _) (by simp) ?_; (case hd => rfl); (case hg => rfl); (case hr => first | (go_simp; done) | (go_simp; rfl))
    intro vL1 wL1 hR hB _ _
    have HB_1 := am (below_then HBp.out HBp.out.size hB)
    have HL_1 := am (Kd.R_lower hR HBp.out.size)
    clear hB hR
    refine hK.out _ _ (HSS.out _ HB_1.out) (fun _ => ?_)
    clear hK K
    refine norm_ (a' := ?_) ?_ ?_
    rotate_left
    ·
     show Act.put _ (some 88) _ = _
     simp only [pz]
     rfl
    refine one_ (i := 9) (N := some 93) (bm 13 1023) rfl rfl (by kernel_rfl) (by decide) (fun K hK => ?_)
    refine call_ 38 #[.int .i64 (-m)] (by rfl) rfl (by go_simp; exact HQ.out) ?_
    refine (leb_Uleb.calls 10 (-m) (U (-m)) _ (U_f (-m) 10 (by omega))).mono ?_
    rintro e wC2 ⟨xC2, rfl, hR, hB⟩
    refine ⟨_, rfl, ?_⟩
    obtain ⟨AC2, cC2, rfl⟩ := Kd.R_slice hR
    have HB_2 := am (below_then HB_1.out HB_1.out.size hB)
    have HX_2 := am (Kd.R_lower hR HB_1.out.size)
    have N_2_0 := am (own_ne HL_1.out hR).2
    have HL_2 := am (Own.below HL_1.out hB)
    clear hB hR
    refine hK.out _ _ (HSS.out _ HB_2.out) (fun _ => ?_)
    clear hK K
    refine norm_ (a' := ?_) ?_ ?_
    rotate_left
    ·
     show Act.put _ (some 93) _ = _
     simp only [pz]
     rfl
    refine one_ (i := 10) (N := some 94) (bm 13 2047) rfl rfl (by kernel_rfl) (by decide) (fun K hK => ?_)
    refine event_step (v := .slice (some ⟨wC2.heap.size, 0, none⟩) 1 1) (w1 := (wC2.alloc (.cells #[.slice AC2 (U (-m)).length cC2] 28))) rfl (by first | (go_simp; done) | (go_simp; rfl)) ?_
    have hB := below_alloc (Below.refl wC2.heap.size wC2) (.cells #[.slice AC2 (U (-m)).length cC2] 28)
    have HB_3 := am (below_then HB_2.out HB_2.out.size hB)
    have hg_3 := blk_new wC2 (.cells #[.slice AC2 (U (-m)).length cC2] 28)
    have HL_3 := am (Own.below HL_2.out hB)
    have HX_3_0 := am (Own.below HX_2.out hB)
    clear hB
    refine hK.out _ _ (HSS.out _ HB_3.out) (fun _ => ?_)
    clear hK K
    refine norm_ (a' := ?_) ?_ ?_
    rotate_left
    ·
     show Act.put _ (some 94) _ = _
     simp only [pz]
     rfl
    exact norm_ (by first | (simp only [putAll, Act.put, List.setIfInBounds_toArray, List.set_cons_zero, List.set_cons_succ]; done) | (simp only [putAll, Act.put, List.setIfInBounds_toArray, List.set_cons_zero, List.set_cons_succ]; rfl)) (hJ (vL1, (AC2, cC2), wC2.heap.size) _ ⟨HB_3.out, HL_3.out, ⟨HX_3_0.out, N_2_0.out⟩, hg_3⟩)
   skip
   refine call_ 38 #[.int .i64 (-m)] (by rfl) rfl (by go_simp; exact HQ.out) ?_
   refine (leb_Uleb.calls 10 (-m) (U (-m)) _ (U_f (-m) 10 (by omega))).mono ?_
   rintro e wC4 ⟨xC4, rfl, hR, hB⟩
   refine ⟨_, rfl, ?_⟩
   obtain ⟨AC4, cC4, rfl⟩ := Kd.R_slice hR
   have HB_4 := am (below_then HBp.out HBp.out.size hB)
   have HX_4 := am (Kd.R_lower hR HBp.out.size)
   clear hB hR
   refine hK.out _ _ (HSS.out _ HB_4.out) (fun _ => ?_)
   clear hK K
   refine norm_ (a' := ?_) ?_ ?_
   rotate_left
   ·
    show Act.put _ (some 93) _ = _
    simp only [pz]
    rfl
   refine two_ (i := 4) (j := 10) (Ni := some 88) (Nj := some 94) (bm 13 1023) (bm 13 2031) rfl rfl rfl rfl (by kernel_rfl) (by decide) (by decide) (fun K hK => ?_) (fun K hK => ?_)
   ·
    skip
    refine Kd.R_lit_step (Kd.int .u8) _ 5 ?hg (N := 88) ?hd (xs := ([IntKind.u8.wrap (128 + IntKind.u8.wrap r)] : List Int)) (inner := [.int .u8 (IntKind.u8.wrap (128 + IntKind.u8.wrap r))]) (ok := fun _ => True) (okp := fun _ => True) ?hr (Reps.one (show Kd.M (Kd.int .u8) _ _ _ (IntKind.u8.wrap (128 + IntKind.u8.wrap r)) [.int .u8 (IntKind.u8.wrap (128 + IntKind.u8.wrap r))] from rfl) (Reps.none _ _)) (fun _ hk => hk) trivial (Below.refl _ _) (Nat.le_refl _) (by simp) ?_; (case hd => rfl); (case hg => rfl); (case hr => first | (go_simp; done) | (go_simp; rfl))
    intro vL5 wL5 hR hB _ _
    have HB_5 := am (below_then HB_4.out HB_4.out.size hB)
    have HL_5 := am (Kd.R_lower hR HB_4.out.size)
    have N_5_0 := am (own_ne HX_4.out hR).1
    have HX_5_0 := am (Own.below HX_4.out hB)
    clear hB hR
    refine hK.out _ _ (HSS.out _ HB_5.out) (fun _ => ?_)
    clear hK K
    refine norm_ (a' := ?_) ?_ ?_
    rotate_left
    ·
     show Act.put _ (some 88) _ = _
     simp only [pz]
     rfl
    refine one_ (i := 10) (N := some 94) (bm 13 2047) rfl rfl (by kernel_rfl) (by decide) (fun K hK => ?_)
    refine event_step (v := .slice (some ⟨wL5.heap.size, 0, none⟩) 1 1) (w1 := (wL5.alloc (.cells #[.slice AC4 (U (-m)).length cC4] 28))) rfl (by first | (go_simp; done) | (go_simp; rfl)) ?_
    have hB := below_alloc (Below.refl wL5.heap.size wL5) (.cells #[.slice AC4 (U (-m)).length cC4] 28)
    have HB_6 := am (below_then HB_5.out HB_5.out.size hB)
    have hg_6 := blk_new wL5 (.cells #[.slice AC4 (U (-m)).length cC4] 28)
    have HL_6 := am (Own.below HL_5.out hB)
    have HX_6_0 := am (Own.below HX_5_0.out hB)
    clear hB
    refine hK.out _ _ (HSS.out _ HB_6.out) (fun _ => ?_)
    clear hK K
    refine norm_ (a' := ?_) ?_ ?_
    rotate_left
    ·
     show Act.put _ (some 94) _ = _
     simp only [pz]
     rfl
    exact norm_ (by first | (simp only [putAll, Act.put, List.setIfInBounds_toArray, List.set_cons_zero, List.set_cons_succ]; done) | (simp only [putAll, Act.put, List.setIfInBounds_toArray, List.set_cons_zero, List.set_cons_succ]; rfl)) (hJ (vL5, (AC4, cC4), wL5.heap.size) _ ⟨HB_6.out, HL_6.out, ⟨HX_6_0.out, N_5_0.out⟩, hg_6⟩)
   skip
   refine event_step (v := .slice (some ⟨wC4.heap.size, 0, none⟩) 1 1) (w1 := (wC4.alloc (.cells #[.slice AC4 (U (-m)).length cC4] 28))) rfl (by first | (go_simp; done) | (go_simp; rfl)) ?_
   have hB := below_alloc (Below.refl wC4.heap.size wC4) (.cells #[.slice AC4 (U (-m)).length cC4] 28)
   have HB_7 := am (below_then HB_4.out HB_4.out.size hB)
   have hg_7 := blk_new wC4 (.cells #[.slice AC4 (U (-m)).length cC4] 28)
   have HX_7_0 := am (Own.below HX_4.out hB)
   clear hB
   refine hK.out _ _ (HSS.out _ HB_7.out) (fun _ => ?_)
   clear hK K
   refine norm_ (a' := ?_) ?_ ?_
   rotate_left
   ·
    show Act.put _ (some 94) _ = _
    simp only [pz]
    rfl
   refine one_ (i := 4) (N := some 88) (bm 13 2047) rfl rfl (by kernel_rfl) (by decide) (fun K hK => ?_)
   refine Kd.R_lit_step (Kd.int .u8) _ 5 ?hg (N := 88) ?hd (xs := ([IntKind.u8.wrap (128 + IntKind.u8.wrap r)] : List Int)) (inner := [.int .u8 (IntKind.u8.wrap (128 + IntKind.u8.wrap r))]) (ok := fun _ => True) (okp := fun _ => True) ?hr (Reps.one (show Kd.M (Kd.int .u8) _ _ _ (IntKind.u8.wrap (128 + IntKind.u8.wrap r)) [.int .u8 (IntKind.u8.wrap (128 + IntKind.u8.wrap r))] from rfl) (Reps.none _ _)) (fun _ hk => hk) trivial (Below.refl _ _) (Nat.le_refl _) (by simp) ?_; (case hd => rfl); (case hg => rfl); (case hr => first | (go_simp; done) | (go_simp; rfl))
   intro vL8 wL8 hR hB _ _
   have HB_8 := am (below_then HB_7.out HB_7.out.size hB)
   have HL_8 := am (Kd.R_lower hR HB_7.out.size)
   have N_8_0 := am (own_ne HX_7_0.out hR).1
   have HX_8_0 := am (Own.below HX_7_0.out hB)
   have hg_8 := blk_below hg_7 hB
   clear hB hR
   refine hK.out _ _ (HSS.out _ HB_8.out) (fun _ => ?_)
   clear hK K
   refine norm_ (a' := ?_) ?_ ?_
   rotate_left
   ·
    show Act.put _ (some 88) _ = _
    simp only [pz]
    rfl
   exact norm_ (by first | (simp only [putAll, Act.put, List.setIfInBounds_toArray, List.set_cons_zero, List.set_cons_succ]; done) | (simp only [putAll, Act.put, List.setIfInBounds_toArray, List.set_cons_zero, List.set_cons_succ]; rfl)) (hJ (vL8, (AC4, cC4), wC4.heap.size) _ ⟨HB_8.out, HL_8.out, ⟨HX_8_0.out, N_8_0.out⟩, hg_8⟩)
  have hdd : decide (8 * m ≤ 0) = false := decide_eq_false hd
  have HSS : Aside0 (∀ u, Below w0.heap.size w0 u → u.cell? ⟨w.heap.size, 1, none⟩ = some (.int .i64 r) ∧ u.cell? ⟨w.heap.size, 2, none⟩ = some (.int .i64 (8 * m))) := ⟨fun u hu => ⟨(blk_cell (blk_below HG.out hu) 1).trans rfl, (blk_cell (blk_below HG.out hu) 2).trans rfl⟩⟩
  have HBp : Aside0 (Below w0.heap.size w0 w0.drew) := ⟨below_drew (Below.refl _ _)⟩
  go_upto_region 19 with fail
  clear y0
  refine start_ (n := 12) (S := fun u => u.cell? ⟨w.heap.size, 1, none⟩ = some (.int .i64 r) ∧ u.cell? ⟨w.heap.size, 2, none⟩ = some (.int .i64 (8 * m))) (ds := []) (bm 12 0) (by kernel_rfl) rfl rfl ?_ (fun hHeld => ?_)
  case refine_1 => exact HSS.out _ HBp.out
  refine pure_ (i := 1) (N := some 97) (v := ?_) (a' := ?_) (bm 12 2) rfl rfl (by kernel_rfl) (fun _ _ _ h => h) (Or.inl ⟨by rfl, ?_⟩) ?_ ?_
  rotate_left
  ·
   intro u
   go_simp
   with_reducible rfl
  rotate_left
  ·
   simp only [pz]
   rfl
  refine take_ (i := 2) (N := some 98) (v := ?_) (a' := ?_) (bm 12 6) rfl rfl (by kernel_rfl) (fun _ _ _ h => h) (Or.inl ⟨by rfl, ?_⟩) hHeld ?_ ?_
  rotate_left
  ·
   rintro u ⟨s1, s2⟩
   go_simp
   with_reducible rfl
  rotate_left
  ·
   simp only [pz]
   rfl
  refine pure_ (i := 4) (N := some 100) (v := ?_) (a' := ?_) (bm 12 22) rfl rfl (by kernel_rfl) (fun _ _ _ h => h) (Or.inl ⟨by rfl, ?_⟩) ?_ ?_
  rotate_left
  ·
   intro u
   go_simp
   with_reducible rfl
  rotate_left
  ·
   simp only [pz]
   rfl
  refine take_ (i := 5) (N := some 101) (v := ?_) (a' := ?_) (bm 12 54) rfl rfl (by kernel_rfl) (fun _ _ _ h => h) (Or.inl ⟨by rfl, ?_⟩) hHeld ?_ ?_
  rotate_left
  ·
   rintro u ⟨s1, s2⟩
   go_simp
   with_reducible rfl
  rotate_left
  ·
   simp only [pz]
   rfl
  refine pure_ (i := 6) (N := some 102) (v := ?_) (a' := ?_) (bm 12 118) rfl rfl (by kernel_rfl) (fun _ _ _ h => h) (Or.inl ⟨by rfl, ?_⟩) ?_ ?_
  rotate_left
  ·
   intro u
   go_simp
   with_reducible rfl
  rotate_left
  ·
   simp only [pz]
   rfl
  refine pure_ (i := 7) (N := some 103) (v := ?_) (a' := ?_) (bm 12 246) rfl rfl (by kernel_rfl) (fun _ _ _ h => h) (Or.inl ⟨by rfl, ?_⟩) ?_ ?_
  rotate_left
  ·
   intro u
   go_simp
   with_reducible rfl
  rotate_left
  ·
   simp only [pz]
   rfl
  clear hHeld y1 y2
  refine join_ (σ := Value × (Option Addr × Nat) × (Option Addr × Nat) × Nat) 2 (bm 12 1023) (fun s => [(96, s.1), (99, .slice s.2.1.1 (U r).length s.2.1.2), (104, .slice s.2.2.1.1 (slebL (-m)).length s.2.2.1.2), (105, .slice (some ⟨s.2.2.2, 0, none⟩) 2 2)]) (fun s W => Below w0.heap.size w0 W ∧ Own W w0.heap.size s.1 [17] ∧ (Own W w0.heap.size (.slice s.2.1.1 (U r).length s.2.1.2) (U r) ∧ ((.slice s.2.1.1 (U r).length s.2.1.2 : Value).ownBlock = none ∨ (.slice s.2.1.1 (U r).length s.2.1.2 : Value).ownBlock ≠ s.1.ownBlock)) ∧ (Own W w0.heap.size (.slice s.2.2.1.1 (slebL (-m)).length s.2.2.1.2) (slebL (-m)) ∧ ((.slice s.2.2.1.1 (slebL (-m)).length s.2.2.1.2 : Value).ownBlock = none ∨ (.slice s.2.2.1.1 (slebL (-m)).length s.2.2.1.2 : Value).ownBlock ≠ s.1.ownBlock)) ∧ W.heap[s.2.2.2]? = some (.cells #[.slice s.2.1.1 (U r).length s.2.1.2, .slice s.2.2.1.1 (slebL (-m)).length s.2.2.1.2] 28 (0, 0))) ?_ ?_
  ·
   rintro ⟨v3, ⟨A0, c0⟩, ⟨A1, c1⟩, g⟩ W ⟨f0, f1, ⟨p0, q0⟩, ⟨p1, q1⟩, fg⟩
   have F0 := am f0
   have F1 := am f1
   have FG := am fg
   have P0 := am (And.intro p0 q0)
   have P1 := am (And.intro p1 q1)
   clear f0 f1 fg p0 q0 p1 q1
   refine norm_ (a' := ?_) ?_ ?_
   rotate_left
   ·
    simp only [putAll, Act.put, List.setIfInBounds_toArray, List.set_cons_zero, List.set_cons_succ]
    rfl
   refine one_ (i := 10) (N := some 106) (bm 12 2047) rfl rfl (by kernel_rfl) (by decide) (fun K hK => ?_)
   refine call_ 79 #[v3, .slice (some ⟨g, 0, none⟩) 2 2] (by rfl) rfl (by go_simp) ?_
   refine (put2_calls (wb := w0) F1.out P0.out.1 P1.out.1 P0.out.2 P1.out.2 FG.out (by simp) (by omega) (by omega) F0.out).mono ?_
   rintro e w6 ⟨v6, rfl, hR6, hB6⟩
   refine ⟨_, rfl, ?_⟩
   have HB6 := am hB6
   refine hK.out _ _ (HSS.out _ hB6) (fun _ => ?_)
   clear hK K hB6
   refine norm_ (a' := ?_) ?_ ?_
   rotate_left
   ·
    show Act.put _ (some 106) _ = _
    simp only [pz]
    rfl
   refine pure_ (i := 11) (N := some 2) (v := ?_) (a' := ?_) (bm 12 4095) rfl rfl (by kernel_rfl) (fun _ _ _ h => h) (Or.inl ⟨by rfl, ?_⟩) ?_ ?_
   rotate_left
   ·
    intro u
    go_simp
    with_reducible rfl
   rotate_left
   ·
    simp only [pz]
    rfl
   refine done_ (by kernel_rfl) ?_
   go_wp2
   go_ret
   refine ⟨_, rfl, Kd.R_lower (show Own _ _ _ (opB 5 r (8 * m)) from ?_) HB0.out.size, below_then HB0.out HB0.out.size HB6.out⟩
   rw [show opB 5 r (8 * m) = [17] ++ U r ++ slebL (-(8 * m / 8)) from if_neg (show ¬ 8 * m ≤ 0 by omega), HE.out]
   exact hR6
  intro hJ
  refine two_ (i := 0) (j := 3) (Ni := some 96) (Nj := some 99) (bm 12 247) (bm 12 254) rfl rfl rfl rfl (by kernel_rfl) (by decide) (by decide) (fun K hK => ?_) (fun K hK => ?_)
  ·
   skip
   refine Kd.R_lit_step (Kd.int .u8) _ 5 ?hg (N := 96) ?hd (xs := ([17] : List Int)) (inner := [.int .u8 (17)]) (ok := fun _ => True) (okp := fun _ => True) ?hr (Reps.one (show Kd.M (Kd.int .u8) _ _ _ (17) [.int .u8 (17)] from rfl) (Reps.none _ _)) (fun _ hk => hk) trivial (Below.refl _ _) (Nat.le_refl _) (by simp) ?_; (case hd => rfl); (case hg => rfl); (case hr => first | (go_simp; done) | (go_simp; rfl))
   intro vL1 wL1 hR hB _ _
   have HB_1 := am (below_then HBp.out HBp.out.size hB)
   have HL_1 := am (Kd.R_lower hR HBp.out.size)
   clear hB hR
   refine hK.out _ _ (HSS.out _ HB_1.out) (fun _ => ?_)
   clear hK K
   refine norm_ (a' := ?_) ?_ ?_
   rotate_left
   ·
    show Act.put _ (some 96) _ = _
    simp only [pz]
    rfl
   refine one_ (i := 3) (N := some 99) (bm 12 255) rfl rfl (by kernel_rfl) (by decide) (fun K hK => ?_)
   refine call_ 38 #[.int .i64 r] (by rfl) rfl (by go_simp) ?_
   refine (leb_Uleb.calls 10 (r) (U (r)) _ (U_f (r) 10 (by omega))).mono ?_
   rintro e wC2 ⟨xC2, rfl, hR, hB⟩
   refine ⟨_, rfl, ?_⟩
   obtain ⟨AC2, cC2, rfl⟩ := Kd.R_slice hR
   have HB_2 := am (below_then HB_1.out HB_1.out.size hB)
   have HX_2 := am (Kd.R_lower hR HB_1.out.size)
   have N_2_0 := am (own_ne HL_1.out hR).2
   have HL_2 := am (Own.below HL_1.out hB)
   clear hB hR
   refine hK.out _ _ (HSS.out _ HB_2.out) (fun _ => ?_)
   clear hK K
   refine norm_ (a' := ?_) ?_ ?_
   rotate_left
   ·
    show Act.put _ (some 99) _ = _
    simp only [pz]
    rfl
   refine one_ (i := 8) (N := some 104) (bm 12 511) rfl rfl (by kernel_rfl) (by decide) (fun K hK => ?_)
   refine call_ 37 #[.int .i64 (-m)] (by rfl) rfl (by go_simp; exact HQ.out) ?_
   refine (leb_Sleb.calls 10 (-m) (slebL (-m)) _ (sleb_f (-m) (by omega) (by omega) 10 (by omega))).mono ?_
   rintro e wC3 ⟨xC3, rfl, hR, hB⟩
   refine ⟨_, rfl, ?_⟩
   obtain ⟨AC3, cC3, rfl⟩ := Kd.R_slice hR
   have HB_3 := am (below_then HB_2.out HB_2.out.size hB)
   have HX_3 := am (Kd.R_lower hR HB_2.out.size)
   have N_3_1 := am (own_ne HL_2.out hR).2
   have HL_3 := am (Own.below HL_2.out hB)
   have HX_3_0 := am (Own.below HX_2.out hB)
   clear hB hR
   refine hK.out _ _ (HSS.out _ HB_3.out) (fun _ => ?_)
   clear hK K
   refine norm_ (a' := ?_) ?_ ?_
   rotate_left
   ·
    show Act.put _ (some 104) _ = _
    simp only [pz]
    rfl
   refine one_ (i := 9) (N := some 105) (bm 12 1023) rfl rfl (by kernel_rfl) (by decide) (fun K hK => ?_)
   refine event_step (v := .slice (some ⟨wC3.heap.size, 0, none⟩) 2 2) (w1 := (wC3.alloc (.cells #[.slice AC2 (U r).length cC2, .slice AC3 (slebL (-m)).length cC3] 28))) rfl (by first | (go_simp; done) | (go_simp; rfl)) ?_
   have hB := below_alloc (Below.refl wC3.heap.size wC3) (.cells #[.slice AC2 (U r).length cC2, .slice AC3 (slebL (-m)).length cC3] 28)
   have HB_4 := am (below_then HB_3.out HB_3.out.size hB)
   have hg_4 := blk_new wC3 (.cells #[.slice AC2 (U r).length cC2, .slice AC3 (slebL (-m)).length cC3] 28)
   have HL_4 := am (Own.below HL_3.out hB)
   have HX_4_0 := am (Own.below HX_3_0.out hB)
   have HX_4_1 := am (Own.below HX_3.out hB)
   clear hB
   refine hK.out _ _ (HSS.out _ HB_4.out) (fun _ => ?_)
   clear hK K
   refine norm_ (a' := ?_) ?_ ?_
   rotate_left
   ·
    show Act.put _ (some 105) _ = _
    simp only [pz]
    rfl
   exact norm_ (by first | (simp only [putAll, Act.put, List.setIfInBounds_toArray, List.set_cons_zero, List.set_cons_succ]; done) | (simp only [putAll, Act.put, List.setIfInBounds_toArray, List.set_cons_zero, List.set_cons_succ]; rfl)) (hJ (vL1, (AC2, cC2), (AC3, cC3), wC3.heap.size) _ ⟨HB_4.out, HL_4.out, ⟨HX_4_0.out, N_2_0.out⟩, ⟨HX_4_1.out, N_3_1.out⟩, hg_4⟩)
  skip
  refine call_ 38 #[.int .i64 r] (by rfl) rfl (by go_simp) ?_
  refine (leb_Uleb.calls 10 (r) (U (r)) _ (U_f (r) 10 (by omega))).mono ?_
  rintro e wC5 ⟨xC5, rfl, hR, hB⟩
  refine ⟨_, rfl, ?_⟩
  obtain ⟨AC5, cC5, rfl⟩ := Kd.R_slice hR
  have HB_5 := am (below_then HBp.out HBp.out.size hB)
  have HX_5 := am (Kd.R_lower hR HBp.out.size)
  clear hB hR
  refine hK.out _ _ (HSS.out _ HB_5.out) (fun _ => ?_)
  clear hK K
  refine norm_ (a' := ?_) ?_ ?_
  rotate_left
  ·
   show Act.put _ (some 99) _ = _
   simp only [pz]
   rfl
  refine two_ (i := 0) (j := 8) (Ni := some 96) (Nj := some 104) (bm 12 255) (bm 12 510) rfl rfl rfl rfl (by kernel_rfl) (by decide) (by decide) (fun K hK => ?_) (fun K hK => ?_)
  ·
   skip
   refine Kd.R_lit_step (Kd.int .u8) _ 5 ?hg (N := 96) ?hd (xs := ([17] : List Int)) (inner := [.int .u8 (17)]) (ok := fun _ => True) (okp := fun _ => True) ?hr (Reps.one (show Kd.M (Kd.int .u8) _ _ _ (17) [.int .u8 (17)] from rfl) (Reps.none _ _)) (fun _ hk => hk) trivial (Below.refl _ _) (Nat.le_refl _) (by simp) ?_; (case hd => rfl); (case hg => rfl); (case hr => first | (go_simp; done) | (go_simp; rfl))
   intro vL6 wL6 hR hB _ _
   have HB_6 := am (below_then HB_5.out HB_5.out.size hB)
   have HL_6 := am (Kd.R_lower hR HB_5.out.size)
   have N_6_0 := am (own_ne HX_5.out hR).1
   have HX_6_0 := am (Own.below HX_5.out hB)
   clear hB hR
   refine hK.out _ _ (HSS.out _ HB_6.out) (fun _ => ?_)
   clear hK K
   refine norm_ (a' := ?_) ?_ ?_
   rotate_left
   ·
    show Act.put _ (some 96) _ = _
    simp only [pz]
    rfl
   refine one_ (i := 8) (N := some 104) (bm 12 511) rfl rfl (by kernel_rfl) (by decide) (fun K hK => ?_)
   refine call_ 37 #[.int .i64 (-m)] (by rfl) rfl (by go_simp; exact HQ.out) ?_
   refine (leb_Sleb.calls 10 (-m) (slebL (-m)) _ (sleb_f (-m) (by omega) (by omega) 10 (by omega))).mono ?_
   rintro e wC7 ⟨xC7, rfl, hR, hB⟩
   refine ⟨_, rfl, ?_⟩
   obtain ⟨AC7, cC7, rfl⟩ := Kd.R_slice hR
   have HB_7 := am (below_then HB_6.out HB_6.out.size hB)
   have HX_7 := am (Kd.R_lower hR HB_6.out.size)
   have N_7_1 := am (own_ne HL_6.out hR).2
   have HL_7 := am (Own.below HL_6.out hB)
   have HX_7_0 := am (Own.below HX_6_0.out hB)
   clear hB hR
   refine hK.out _ _ (HSS.out _ HB_7.out) (fun _ => ?_)
   clear hK K
   refine norm_ (a' := ?_) ?_ ?_
   rotate_left
   ·
    show Act.put _ (some 104) _ = _
    simp only [pz]
    rfl
   refine one_ (i := 9) (N := some 105) (bm 12 1023) rfl rfl (by kernel_rfl) (by decide) (fun K hK => ?_)
   refine event_step (v := .slice (some ⟨wC7.heap.size, 0, none⟩) 2 2) (w1 := (wC7.alloc (.cells #[.slice AC5 (U r).length cC5, .slice AC7 (slebL (-m)).length cC7] 28))) rfl (by first | (go_simp; done) | (go_simp; rfl)) ?_
   have hB := below_alloc (Below.refl wC7.heap.size wC7) (.cells #[.slice AC5 (U r).length cC5, .slice AC7 (slebL (-m)).length cC7] 28)
   have HB_8 := am (below_then HB_7.out HB_7.out.size hB)
   have hg_8 := blk_new wC7 (.cells #[.slice AC5 (U r).length cC5, .slice AC7 (slebL (-m)).length cC7] 28)
   have HL_8 := am (Own.below HL_7.out hB)
   have HX_8_0 := am (Own.below HX_7_0.out hB)
   have HX_8_1 := am (Own.below HX_7.out hB)
   clear hB
   refine hK.out _ _ (HSS.out _ HB_8.out) (fun _ => ?_)
   clear hK K
   refine norm_ (a' := ?_) ?_ ?_
   rotate_left
   ·
    show Act.put _ (some 105) _ = _
    simp only [pz]
    rfl
   exact norm_ (by first | (simp only [putAll, Act.put, List.setIfInBounds_toArray, List.set_cons_zero, List.set_cons_succ]; done) | (simp only [putAll, Act.put, List.setIfInBounds_toArray, List.set_cons_zero, List.set_cons_succ]; rfl)) (hJ (vL6, (AC5, cC5), (AC7, cC7), wC7.heap.size) _ ⟨HB_8.out, HL_8.out, ⟨HX_8_0.out, N_6_0.out⟩, ⟨HX_8_1.out, N_7_1.out⟩, hg_8⟩)
  skip
  refine call_ 37 #[.int .i64 (-m)] (by rfl) rfl (by go_simp; exact HQ.out) ?_
  refine (leb_Sleb.calls 10 (-m) (slebL (-m)) _ (sleb_f (-m) (by omega) (by omega) 10 (by omega))).mono ?_
  rintro e wC9 ⟨xC9, rfl, hR, hB⟩
  refine ⟨_, rfl, ?_⟩
  obtain ⟨AC9, cC9, rfl⟩ := Kd.R_slice hR
  have HB_9 := am (below_then HB_5.out HB_5.out.size hB)
  have HX_9 := am (Kd.R_lower hR HB_5.out.size)
  have HX_9_0 := am (Own.below HX_5.out hB)
  clear hB hR
  refine hK.out _ _ (HSS.out _ HB_9.out) (fun _ => ?_)
  clear hK K
  refine norm_ (a' := ?_) ?_ ?_
  rotate_left
  ·
   show Act.put _ (some 104) _ = _
   simp only [pz]
   rfl
  refine two_ (i := 0) (j := 9) (Ni := some 96) (Nj := some 105) (bm 12 511) (bm 12 1022) rfl rfl rfl rfl (by kernel_rfl) (by decide) (by decide) (fun K hK => ?_) (fun K hK => ?_)
  ·
   skip
   refine Kd.R_lit_step (Kd.int .u8) _ 5 ?hg (N := 96) ?hd (xs := ([17] : List Int)) (inner := [.int .u8 (17)]) (ok := fun _ => True) (okp := fun _ => True) ?hr (Reps.one (show Kd.M (Kd.int .u8) _ _ _ (17) [.int .u8 (17)] from rfl) (Reps.none _ _)) (fun _ hk => hk) trivial (Below.refl _ _) (Nat.le_refl _) (by simp) ?_; (case hd => rfl); (case hg => rfl); (case hr => first | (go_simp; done) | (go_simp; rfl))
   intro vL10 wL10 hR hB _ _
   have HB_10 := am (below_then HB_9.out HB_9.out.size hB)
   have HL_10 := am (Kd.R_lower hR HB_9.out.size)
   have N_10_0 := am (own_ne HX_9_0.out hR).1
   have N_10_1 := am (own_ne HX_9.out hR).1
   have HX_10_0 := am (Own.below HX_9_0.out hB)
   have HX_10_1 := am (Own.below HX_9.out hB)
   clear hB hR
   refine hK.out _ _ (HSS.out _ HB_10.out) (fun _ => ?_)
   clear hK K
   refine norm_ (a' := ?_) ?_ ?_
   rotate_left
   ·
    show Act.put _ (some 96) _ = _
    simp only [pz]
    rfl
   refine one_ (i := 9) (N := some 105) (bm 12 1023) rfl rfl (by kernel_rfl) (by decide) (fun K hK => ?_)
   refine event_step (v := .slice (some ⟨wL10.heap.size, 0, none⟩) 2 2) (w1 := (wL10.alloc (.cells #[.slice AC5 (U r).length cC5, .slice AC9 (slebL (-m)).length cC9] 28))) rfl (by first | (go_simp; done) | (go_simp; rfl)) ?_
   have hB := below_alloc (Below.refl wL10.heap.size wL10) (.cells #[.slice AC5 (U r).length cC5, .slice AC9 (slebL (-m)).length cC9] 28)
   have HB_11 := am (below_then HB_10.out HB_10.out.size hB)
   have hg_11 := blk_new wL10 (.cells #[.slice AC5 (U r).length cC5, .slice AC9 (slebL (-m)).length cC9] 28)
   have HL_11 := am (Own.below HL_10.out hB)
   have HX_11_0 := am (Own.below HX_10_0.out hB)
   have HX_11_1 := am (Own.below HX_10_1.out hB)
   clear hB
   refine hK.out _ _ (HSS.out _ HB_11.out) (fun _ => ?_)
   clear hK K
   refine norm_ (a' := ?_) ?_ ?_
   rotate_left
   ·
    show Act.put _ (some 105) _ = _
    simp only [pz]
    rfl
   exact norm_ (by first | (simp only [putAll, Act.put, List.setIfInBounds_toArray, List.set_cons_zero, List.set_cons_succ]; done) | (simp only [putAll, Act.put, List.setIfInBounds_toArray, List.set_cons_zero, List.set_cons_succ]; rfl)) (hJ (vL10, (AC5, cC5), (AC9, cC9), wL10.heap.size) _ ⟨HB_11.out, HL_11.out, ⟨HX_11_0.out, N_10_0.out⟩, ⟨HX_11_1.out, N_10_1.out⟩, hg_11⟩)
  skip
  refine event_step (v := .slice (some ⟨wC9.heap.size, 0, none⟩) 2 2) (w1 := (wC9.alloc (.cells #[.slice AC5 (U r).length cC5, .slice AC9 (slebL (-m)).length cC9] 28))) rfl (by first | (go_simp; done) | (go_simp; rfl)) ?_
  have hB := below_alloc (Below.refl wC9.heap.size wC9) (.cells #[.slice AC5 (U r).length cC5, .slice AC9 (slebL (-m)).length cC9] 28)
  have HB_12 := am (below_then HB_9.out HB_9.out.size hB)
  have hg_12 := blk_new wC9 (.cells #[.slice AC5 (U r).length cC5, .slice AC9 (slebL (-m)).length cC9] 28)
  have HX_12_0 := am (Own.below HX_9_0.out hB)
  have HX_12_1 := am (Own.below HX_9.out hB)
  clear hB
  refine hK.out _ _ (HSS.out _ HB_12.out) (fun _ => ?_)
  clear hK K
  refine norm_ (a' := ?_) ?_ ?_
  rotate_left
  ·
   show Act.put _ (some 105) _ = _
   simp only [pz]
   rfl
  refine one_ (i := 0) (N := some 96) (bm 12 1023) rfl rfl (by kernel_rfl) (by decide) (fun K hK => ?_)
  refine Kd.R_lit_step (Kd.int .u8) _ 5 ?hg (N := 96) ?hd (xs := ([17] : List Int)) (inner := [.int .u8 (17)]) (ok := fun _ => True) (okp := fun _ => True) ?hr (Reps.one (show Kd.M (Kd.int .u8) _ _ _ (17) [.int .u8 (17)] from rfl) (Reps.none _ _)) (fun _ hk => hk) trivial (Below.refl _ _) (Nat.le_refl _) (by simp) ?_; (case hd => rfl); (case hg => rfl); (case hr => first | (go_simp; done) | (go_simp; rfl))
  intro vL13 wL13 hR hB _ _
  have HB_13 := am (below_then HB_12.out HB_12.out.size hB)
  have HL_13 := am (Kd.R_lower hR HB_12.out.size)
  have N_13_0 := am (own_ne HX_12_0.out hR).1
  have N_13_1 := am (own_ne HX_12_1.out hR).1
  have HX_13_0 := am (Own.below HX_12_0.out hB)
  have HX_13_1 := am (Own.below HX_12_1.out hB)
  have hg_13 := blk_below hg_12 hB
  clear hB hR
  refine hK.out _ _ (HSS.out _ HB_13.out) (fun _ => ?_)
  clear hK K
  refine norm_ (a' := ?_) ?_ ?_
  rotate_left
  ·
   show Act.put _ (some 96) _ = _
   simp only [pz]
   rfl
  exact norm_ (by first | (simp only [putAll, Act.put, List.setIfInBounds_toArray, List.set_cons_zero, List.set_cons_succ]; done) | (simp only [putAll, Act.put, List.setIfInBounds_toArray, List.set_cons_zero, List.set_cons_succ]; rfl)) (hJ (vL13, (AC5, cC5), (AC9, cC9), wC9.heap.size) _ ⟨HB_13.out, HL_13.out, ⟨HX_13_0.out, N_13_0.out⟩, ⟨HX_13_1.out, N_13_1.out⟩, hg_13⟩)
 ·
  obtain ⟨h0, h1⟩ := may6 HM.out
  go_wp2_with ((with_reducible refine gate_dst (N := 113) rfl ?_); refine stopB ?stop)
  case stop =>
   unfold StopB
   refine Kd.R_lit (Kd.int .u8) _ 5 ?hg (N := 113) ?hd (xs := ([192 + r] : List Int)) (inner := [.int .u8 (192 + r)]) (ok := fun _ => True) (okp := fun _ => True) ?hr (Reps.one (show Kd.M (Kd.int .u8) _ _ _ (192 + r) [.int .u8 (192 + r)] from rfl) (Reps.none _ _)) (fun _ hk => hk) trivial (Below.refl _ _) (Nat.le_refl _) (by simp) ?_
   case hd => rfl
   case hg => rfl
   case hr => first | (go_simp; done) | (go_simp; rfl)
   intro v3 w3 hR3 hB3 _ _
   go_wp2
   go_ret
   exact ⟨_, rfl, Kd.R_lower (by rw [show opB 6 r n = [(192 + r) % 256] from rfl, show (192 + r) % 256 = 192 + r by omega]; exact hR3) HB0.out.size, below_then HB0.out HB0.out.size hB3⟩
 ·
  skip
  go_wp2_with ((with_reducible refine gate_dst (N := 116) rfl ?_); refine stopB ?stop)
  case stop =>
   unfold StopB
   refine Kd.R_lit (Kd.int .u8) _ 5 ?hg (N := 116) ?hd (xs := ([7] : List Int)) (inner := [.int .u8 (7)]) (ok := fun _ => True) (okp := fun _ => True) ?hr (Reps.one (show Kd.M (Kd.int .u8) _ _ _ (7) [.int .u8 (7)] from rfl) (Reps.none _ _)) (fun _ hk => hk) trivial (Below.refl _ _) (Nat.le_refl _) (by simp) ?_
   case hd => rfl
   case hg => rfl
   case hr => first | (go_simp; done) | (go_simp; rfl)
   intro v3 w3 hR3 hB3 _ _
   have HV := am (Kd.R_lower hR3 (Nat.le_refl _))
   have z1 : w3.cell? ⟨w.heap.size, 1, none⟩ = some (.int .i64 r) := (blk_cell (blk_below HG.out hB3) 1).trans rfl
   have HB3 := am hB3
   clear hB3 y0 y1 y2 hR3
   go_wp2_with fail
   refine (leb_Uleb.calls 10 r (U r) w3 (U_f r 10 (by omega))).mono ?_
   rintro e w4 ⟨v4, rfl, hR4, hB4⟩
   have HN := am (own_ne HV.out hR4).2
   have HV4 := am (Own.below HV.out hB4)
   have HB4 := am (below_then HB3.out HB3.out.size hB4)
   have HX := am (Kd.R_lower hR4 HB3.out.size)
   obtain ⟨A4, c4, rfl⟩ := Kd.R_slice hR4
   clear hR4 hB4
   go_wp2_with fail
   have hG5 := blk_new w4 (.cells #[.slice A4 (U r).length c4] 28)
   have hB5 := below_alloc (Below.refl w4.heap.size w4) (.cells #[.slice A4 (U r).length c4] 28)
   obtain ⟨w5, hw5⟩ : ∃ w5, w5 = w4.alloc (.cells #[.slice A4 (U r).length c4] 28) := ⟨_, rfl⟩
   rw [← hw5] at hG5 hB5 ⊢
   refine (put1_calls (wb := w0) (Own.below HV4.out hB5) (Own.below HX.out hB5) HN.out hG5 (by simp) (by omega) (below_then HB4.out HB4.out.size hB5)).mono ?_
   rintro e w6 ⟨u, rfl, hR6, hB6⟩
   go_wp2
   go_ret
   exact ⟨_, rfl, Kd.R_lower (show Own _ _ _ (opB 7 r n) from hR6) HB0.out.size, below_then HB0.out HB0.out.size hB6⟩
 ·
  skip
  go_wp2_with ((with_reducible refine gate_dst (N := 124) rfl ?_); refine stopB ?stop)
  case stop =>
   unfold StopB
   refine Kd.R_lit (Kd.int .u8) _ 5 ?hg (N := 124) ?hd (xs := ([8] : List Int)) (inner := [.int .u8 (8)]) (ok := fun _ => True) (okp := fun _ => True) ?hr (Reps.one (show Kd.M (Kd.int .u8) _ _ _ (8) [.int .u8 (8)] from rfl) (Reps.none _ _)) (fun _ hk => hk) trivial (Below.refl _ _) (Nat.le_refl _) (by simp) ?_
   case hd => rfl
   case hg => rfl
   case hr => first | (go_simp; done) | (go_simp; rfl)
   intro v3 w3 hR3 hB3 _ _
   have HV := am (Kd.R_lower hR3 (Nat.le_refl _))
   have z1 : w3.cell? ⟨w.heap.size, 1, none⟩ = some (.int .i64 r) := (blk_cell (blk_below HG.out hB3) 1).trans rfl
   have HB3 := am hB3
   clear hB3 y0 y1 y2 hR3
   go_wp2_with fail
   refine (leb_Uleb.calls 10 r (U r) w3 (U_f r 10 (by omega))).mono ?_
   rintro e w4 ⟨v4, rfl, hR4, hB4⟩
   have HN := am (own_ne HV.out hR4).2
   have HV4 := am (Own.below HV.out hB4)
   have HB4 := am (below_then HB3.out HB3.out.size hB4)
   have HX := am (Kd.R_lower hR4 HB3.out.size)
   obtain ⟨A4, c4, rfl⟩ := Kd.R_slice hR4
   clear hR4 hB4
   go_wp2_with fail
   have hG5 := blk_new w4 (.cells #[.slice A4 (U r).length c4] 28)
   have hB5 := below_alloc (Below.refl w4.heap.size w4) (.cells #[.slice A4 (U r).length c4] 28)
   obtain ⟨w5, hw5⟩ : ∃ w5, w5 = w4.alloc (.cells #[.slice A4 (U r).length c4] 28) := ⟨_, rfl⟩
   rw [← hw5] at hG5 hB5 ⊢
   refine (put1_calls (wb := w0) (Own.below HV4.out hB5) (Own.below HX.out hB5) HN.out hG5 (by simp) (by omega) (below_then HB4.out HB4.out.size hB5)).mono ?_
   rintro e w6 ⟨u, rfl, hR6, hB6⟩
   go_wp2
   go_ret
   exact ⟨_, rfl, Kd.R_lower (show Own _ _ _ (opB 8 r n) from hR6) HB0.out.size, below_then HB0.out HB0.out.size hB6⟩
 ·
  skip
  go_wp2_with ((with_reducible refine gate_dst (N := 132) rfl ?_); refine stopB ?stop)
  case stop =>
   unfold StopB
   refine Kd.R_lit (Kd.int .u8) _ 5 ?hg (N := 132) ?hd (xs := ([10] : List Int)) (inner := [.int .u8 (10)]) (ok := fun _ => True) (okp := fun _ => True) ?hr (Reps.one (show Kd.M (Kd.int .u8) _ _ _ (10) [.int .u8 (10)] from rfl) (Reps.none _ _)) (fun _ hk => hk) trivial (Below.refl _ _) (Nat.le_refl _) (by simp) ?_
   case hd => rfl
   case hg => rfl
   case hr => first | (go_simp; done) | (go_simp; rfl)
   intro v3 w3 hR3 hB3 _ _
   go_wp2
   go_ret
   exact ⟨_, rfl, Kd.R_lower (by rw [show opB 9 r n = [10] from rfl]; exact hR3) HB0.out.size, below_then HB0.out HB0.out.size hB3⟩
 skip
 go_wp2_with ((with_reducible refine gate_dst (N := 135) rfl ?_); refine stopB ?stop)
 case stop =>
  unfold StopB
  refine Kd.R_lit (Kd.int .u8) _ 5 ?hg (N := 135) ?hd (xs := ([11] : List Int)) (inner := [.int .u8 (11)]) (ok := fun _ => True) (okp := fun _ => True) ?hr (Reps.one (show Kd.M (Kd.int .u8) _ _ _ (11) [.int .u8 (11)] from rfl) (Reps.none _ _)) (fun _ hk => hk) trivial (Below.refl _ _) (Nat.le_refl _) (by simp) ?_
  case hd => rfl
  case hg => rfl
  case hr => first | (go_simp; done) | (go_simp; rfl)
  intro v3 w3 hR3 hB3 _ _
  go_wp2
  go_ret
  exact ⟨_, rfl, Kd.R_lower (by rw [show opB 10 r n = [11] from rfl]; exact hR3) HB0.out.size, below_then HB0.out HB0.out.size hB3⟩
end Go.Proofs.Ytfgfnflhdabmcaa.CfaB
end
section
namespace Go.Proofs.Ytfgfnflhdabmcaa.G
open Go.RowKit Go.Proofs.YtfgfnflhdabmcaaW.PrintWords Go.Proofs.YtfgfnflhdabmcaaW.PrintLast Go.Proofs.YtfgfnflhdabmcaaW.PrintMore
attribute [local go_sem] max2_int min2_int max_two min_two max_three min_three max_four min_four
/-- the bytes of an op that may be -/
def cfa_Op_bytes.f (k : Nat) (a0_0 a0_1 a0_2 : Int) : Option (List Int) := if mayF a0_0 a0_1 a0_2 = true then some (CfaB.opB a0_0 a0_1 a0_2) else none
theorem cfa_Op_bytes.mono : ∀ a0 a1 a2 k, LeO (cfa_Op_bytes.f k a0 a1 a2) (cfa_Op_bytes.f (k + 1) a0 a1 a2) := fun _ _ _ _ => LeO.refl _
theorem cfa_Op_bytes.calls (k : Nat) (a0_0 : Int) (a0_1 : Int) (a0_2 : Int) (r : List Int) (w : World) (h : cfa_Op_bytes.f k a0_0 a0_1 a0_2 = some r) :
    Calls Try.prog 59 #[.agg #[.int .i64 a0_0, .int .i64 a0_1, .int .i64 a0_2]] w fun e w' => ∃ v0_ : Value, e = .returned (v0_) ∧ Kd.R (Kd.int .u8) 5 w' w.heap.size (fun _ => True) v0_ r ∧ Below w.heap.size w w' := by
 unfold cfa_Op_bytes.f at h
 split at h
 case isFalse => cases h
 rename_i hb
 obtain rfl := Option.some.inj h
 exact CfaB.bytes_calls a0_0 a0_1 a0_2 hb w
end Go.Proofs.Ytfgfnflhdabmcaa.G
end
