/- Lemmas and contracts, one text behind the other: what the row of this claim needs; no conditions beyond those that each theorem names. -/
import Derived.Laws.BitsLemmas
import Derived.Laws.Bits64b
import Derived.Test.YtfgfnflhdabmcaaVE1
set_option linter.unusedVariables false
set_option linter.unusedSimpArgs false
set_option maxRecDepth 100000
section
namespace Go.Proofs.Ytfgfnflhdabmcaa.Eh
open Go.RowKit Go.Proofs.Ytfgfnflhdabmcaa.G Go.Proofs.YtfgfnflhdabmcaaW.PrintWords Go.Proofs.YtfgfnflhdabmcaaW.PrintLast Go.Proofs.YtfgfnflhdabmcaaW.PrintMore Go.Proofs.Ytfgfnflhdabmcaa.EhOf
theorem atC (l : List S69) (i : Nat) (h : i < l.length) : l.drop i = rd_T69 l (i : Int) :: l.drop (i + 1) := by
 have hrd : rd_T69 l (i : Int) = l[i] := by simp [rd_T69, List.getD, h]
 rw [hrd, List.drop_eq_getElem_cons h]
theorem atF (l : List S46) (i : Nat) (h : i < l.length) : l.drop i = rd_T46 l (i : Int) :: l.drop (i + 1) := by
 have hrd : rd_T46 l (i : Int) = l[i] := by simp [rd_T46, List.getD, h]
 rw [hrd, List.drop_eq_getElem_cons h]
def okC0 (x : S69) : Bool := decide (x.f1.length ≤ 3992)
def okF0 (y : S46) : Bool := decide (y.f3.length ≤ 3992)
def okC1 (x : S69) : Bool := (ofF x.f0).2.2.2
def okF1 (n : Nat) (y : S46) : Bool := decide (0 ≤ y.f0) && decide (y.f0 < n) && !farB y.f1 && decide (0 ≤ y.f2) && decide (y.f2 ≤ 1048576)
def okC2 (x : S69) : Bool := decide ((Cfa.rowsOf (Cfa.opl x.f1) (Cfa.opl []) 0).2 = 0)
def okF2 (c : List S69) (y : S46) : Bool := decide ((Cfa.rowsOf (Cfa.opl (rd_T69 c y.f0).f1) (Cfa.opl y.f3) y.f2).2 = 0)
def checkV (c : List S69) (f : List S46) : Int :=
  if 4000 < c.length ∨ 4000 < f.length then 6
  else if c.all okC0 = false then 6 else if f.all okF0 = false then 6
  else if c.all okC1 = false then 140 else if f.all (okF1 c.length) = false then 140
  else if c.all okC2 = false then 130 else if f.all (okF2 c) = false then 130 else 0
theorem w1 {i n : Nat} (h : i < n) (hn : n ≤ 4000) : wrap64 ((i : Int) + 1) = ((i + 1 : Nat) : Int) := by unfold wrap64; omega
theorem C_blk {α : Type} (d : Kd α) {w : World} {g e : Nat} {cs : Array Value} {xs : List α} (h : w.heap[g]? = some (.cells cs e (0, 0))) (hr : Reps (d.K w) d.sz xs cs.toList) (hm : xs.length ≤ 9223372036854775807) : d.C w (some ⟨g, 0, none⟩) xs.length xs := by
 refine ⟨rfl, hm, fun _ => ⟨_, rfl, fun j p hj => ⟨_, ?_, hr.2 j p hj, fun i u hu => ?_⟩⟩⟩
 ·
  exact d.K_len (hr.2 j p hj)
 have hc := blk_cell h (j * d.sz + i)
 have hl := d.K_len (hr.2 j p hj)
 have hi : i < d.sz := by rw [← hl]; exact (List.getElem?_eq_some_iff.1 hu).1
 have e1 : (⟨g, 0, none⟩ : Addr).add (j * d.sz + i) = ⟨g, j * d.sz + i, none⟩ := by
  unfold Addr.add
  split
  ·
   rename_i h0; rw [h0]
  simp only [Nat.zero_add]
 rw [e1, hc, ← hu]
 rw [List.getElem?_take_of_lt hi, List.getElem?_drop, Array.getElem?_toList]
theorem all_bad {α : Type} {l : List α} {p : α → Bool} {x : α} (h : x ∈ l) (hp : p x = false) : l.all p = false := by
 rw [List.all_eq_false]
 exact ⟨x, h, by rw [hp]; simp⟩
theorem memC (l : List S69) (i : Nat) (h : i < l.length) : rd_T69 l (i : Int) ∈ l := List.mem_of_mem_drop (by rw [atC l i h]; exact List.mem_cons_self)
theorem memF (l : List S46) (i : Nat) (h : i < l.length) : rd_T46 l (i : Int) ∈ l := List.mem_of_mem_drop (by rw [atF l i h]; exact List.mem_cons_self)
theorem all_C {l : List S69} {p : S69 → Bool} (h : ∀ i, i < l.length → p (rd_T69 l ((i : Nat) : Int)) = true) : l.all p = true := by
 rw [List.all_eq_true]
 intro x hx
 obtain ⟨i, hi, rfl⟩ := List.getElem_of_mem hx
 have := h i hi
 have e : rd_T69 l (i : Int) = l[i] := by simp [rd_T69, List.getD, hi]
 rw [← e]
 exact this
theorem all_F {l : List S46} {p : S46 → Bool} (h : ∀ i, i < l.length → p (rd_T46 l ((i : Nat) : Int)) = true) : l.all p = true := by
 rw [List.all_eq_true]
 intro x hx
 obtain ⟨i, hi, rfl⟩ := List.getElem_of_mem hx
 have := h i hi
 have e : rd_T46 l (i : Int) = l[i] := by simp [rd_T46, List.getD, hi]
 rw [← e]
 exact this
set_option maxHeartbeats 4000000 in
theorem check_calls (A0 : Option Addr) (c0 : Nat) (c : List S69) (A1 : Option Addr) (c1 : Nat) (f : List S46) (w : World) (hr0 : Kd.C k69 w A0 c.length c) (hc0 : c.length ≤ c0) (hr1 : Kd.C k46 w A1 f.length f) (hc1 : f.length ≤ c1) :
    Calls Try.prog 12 #[.slice A0 c.length c0, .slice A1 f.length c1] w fun e w' => e = .returned (.int .i64 (checkV c f)) ∧ Below w.heap.size w w' := by
 have HC := am hr0
 have HF := am hr1
 clear hr0 hr1
 go_enter Try.func12, Try.ntmps12
 by_cases hc : 4000 < c.length
 ·
  have hd : decide ((4000 : Int) < (c.length : Int)) = true := decide_eq_true (by omega)
  go_wp2
  go_ret
  exact ⟨by unfold checkV; rw [if_pos (.inl hc)]; rfl, Below.refl _ _⟩
 have hd : decide ((4000 : Int) < (c.length : Int)) = false := decide_eq_false (by omega)
 by_cases hf : 4000 < f.length
 ·
  have hd2 : decide ((4000 : Int) < (f.length : Int)) = true := decide_eq_true (by omega)
  go_wp2
  go_ret
  exact ⟨by unfold checkV; rw [if_pos (.inr hf)]; rfl, Below.refl _ _⟩
 have hd2 : decide ((4000 : Int) < (f.length : Int)) = false := decide_eq_false (by omega)
 have HN : Aside0 (¬(4000 < c.length ∨ 4000 < f.length)) := ⟨by omega⟩
 go_wp2
 go_loopg [30] c.length (fun kq v30 wr => ∃ k : Nat, k + kq = c.length ∧ v30 = .int .i64 (k : Int) ∧ Aside0 (∀ i : Nat, i < k → okC0 (rd_T69 c (i : Int)) = true) ∧ Aside0 (Below w.heap.size w wr))
 case atStart => exact ⟨0, by omega, rfl, ⟨fun i hi => absurd hi (by omega)⟩, ⟨(Below.refl _ _)⟩⟩
 case round =>
  obtain ⟨k, hk, rfl, HK, HB0⟩ := hrel
  cases gk with
  | succ gk =>
   have hlt : decide ((k : Int) < (c.length : Int)) = true := decide_eq_true (by omega)
   obtain ⟨ad, Ae, ce, rfl, z0, z1, hce, hCe⟩ := at_T69 (Kd.C_below HC.out HB0.out) (k : Int) (by omega) (by omega)
   rw [Int.toNat_natCast] at z0 z1
   have HCE := am hCe
   have HM := am (show ∀ b : Bool, okC0 (rd_T69 c (k : Int)) = b → b = true → ∀ i : Nat, i < k + 1 → okC0 (rd_T69 c (i : Int)) = true from fun b hb ht i hi => by
     rcases Nat.lt_or_eq_of_le (Nat.le_of_lt_succ hi) with h1 | h1
     · exact HK.out i h1
     · rw [h1, hb, ht])
   have HBAD := am (show ∀ hbad : okC0 (rd_T69 c (k : Int)) = false, checkV c f = 6 from fun hbad => by
     unfold checkV
     rw [if_neg HN.out]
     exact if_pos (all_bad (memC c k (by omega)) hbad))
   clear hCe HK
   generalize rd_T69 c (k : Int) = x at z0 z1 HCE HM HBAD hce
   by_cases hb : okC0 x = true
   ·
    have hx : decide ((3992 : Int) < (x.f1.length : Int)) = false := decide_eq_false (by unfold okC0 at hb; have := of_decide_eq_true hb; omega)
    go_wp2
    go_roundg gk
    case measure => omega
    case rel => exact ⟨k + 1, by omega, by go_num, ⟨HM.out _ hb rfl⟩, ⟨below_alloc HB0.out _⟩⟩
   have hx : decide ((3992 : Int) < (x.f1.length : Int)) = true := decide_eq_true (by unfold okC0 at hb; have : ¬ x.f1.length ≤ 3992 := fun h => hb (decide_eq_true h); omega)
   go_wp2
   go_ret
   exact ⟨by rw [HBAD.out (by simpa using hb)]; rfl, below_alloc HB0.out _⟩
  | zero =>
   have hlt : decide ((k : Int) < (c.length : Int)) = false := decide_eq_false (by omega)
   have HA0 : Aside0 (c.all okC0 = true) := ⟨all_C (fun i hi => HK.out i (by omega))⟩
   have hltn0 : decide (k < c.length) = false := decide_eq_false (by omega)
   clear HK hlt
   go_wp2
   try rw [hltn0]
   go_loopg [41] f.length (fun kq v41 wr => ∃ k : Nat, k + kq = f.length ∧ v41 = .int .i64 (k : Int) ∧ Aside0 (∀ i : Nat, i < k → okF0 (rd_T46 f (i : Int)) = true) ∧ Aside0 (Below w.heap.size w wr))
   case atStart => exact ⟨0, by omega, rfl, ⟨fun i hi => absurd hi (by omega)⟩, ⟨HB0.out⟩⟩
   case round =>
    obtain ⟨k, hk, rfl, HK, HB1⟩ := hrel
    cases gk with
    | succ gk =>
     have hlt : decide ((k : Int) < (f.length : Int)) = true := decide_eq_true (by omega)
     obtain ⟨ad, Ae, ce, rfl, z0, z1, z2, z3, hce, hCe⟩ := at_T46 (Kd.C_below HF.out HB1.out) (k : Int) (by omega) (by omega)
     rw [Int.toNat_natCast] at z0 z1 z2 z3
     have HCE := am hCe
     have HM := am (show ∀ b : Bool, okF0 (rd_T46 f (k : Int)) = b → b = true → ∀ i : Nat, i < k + 1 → okF0 (rd_T46 f (i : Int)) = true from fun b hb ht i hi => by
       rcases Nat.lt_or_eq_of_le (Nat.le_of_lt_succ hi) with h1 | h1
       · exact HK.out i h1
       · rw [h1, hb, ht])
     have HBAD := am (show ∀ hbad : okF0 (rd_T46 f (k : Int)) = false, checkV c f = 6 from fun hbad => by
       unfold checkV
       rw [if_neg HN.out]
       rw [if_neg (by rw [HA0.out]; decide)]
       exact if_pos (all_bad (memF f k (by omega)) hbad))
     clear hCe HK
     generalize rd_T46 f (k : Int) = x at z0 z1 z2 z3 HCE HM HBAD hce
     by_cases hb : okF0 x = true
     ·
      have hx : decide ((3992 : Int) < (x.f3.length : Int)) = false := decide_eq_false (by unfold okF0 at hb; have := of_decide_eq_true hb; omega)
      go_wp2
      go_roundg gk
      case measure => omega
      case rel => exact ⟨k + 1, by omega, by go_num, ⟨HM.out _ hb rfl⟩, ⟨below_alloc HB1.out _⟩⟩
     have hx : decide ((3992 : Int) < (x.f3.length : Int)) = true := decide_eq_true (by unfold okF0 at hb; have : ¬ x.f3.length ≤ 3992 := fun h => hb (decide_eq_true h); omega)
     go_wp2
     go_ret
     exact ⟨by rw [HBAD.out (by simpa using hb)]; rfl, below_alloc HB1.out _⟩
    | zero =>
     have hlt : decide ((k : Int) < (f.length : Int)) = false := decide_eq_false (by omega)
     have HA1 : Aside0 (f.all okF0 = true) := ⟨all_F (fun i hi => HK.out i (by omega))⟩
     have hltn1 : decide (k < f.length) = false := decide_eq_false (by omega)
     clear HK hlt
     go_wp2
     try rw [hltn0]
     try rw [hltn1]
     go_loopg [52] c.length (fun kq v52 wr => ∃ k : Nat, k + kq = c.length ∧ v52 = .int .i64 (k : Int) ∧ Aside0 (∀ i : Nat, i < k → okC1 (rd_T69 c (i : Int)) = true) ∧ Aside0 (Below w.heap.size w wr))
     case atStart => exact ⟨0, by omega, rfl, ⟨fun i hi => absurd hi (by omega)⟩, ⟨HB1.out⟩⟩
     case round =>
      obtain ⟨k, hk, rfl, HK, HB2⟩ := hrel
      cases gk with
      | succ gk =>
       have hlt : decide ((k : Int) < (c.length : Int)) = true := decide_eq_true (by omega)
       obtain ⟨ad, Ae, ce, rfl, z0, z1, hce, hCe⟩ := at_T69 (Kd.C_below HC.out HB2.out) (k : Int) (by omega) (by omega)
       rw [Int.toNat_natCast] at z0 z1
       have HCE := am hCe
       have HM := am (show ∀ b : Bool, okC1 (rd_T69 c (k : Int)) = b → b = true → ∀ i : Nat, i < k + 1 → okC1 (rd_T69 c (i : Int)) = true from fun b hb ht i hi => by
         rcases Nat.lt_or_eq_of_le (Nat.le_of_lt_succ hi) with h1 | h1
         · exact HK.out i h1
         · rw [h1, hb, ht])
       have HBAD := am (show ∀ hbad : okC1 (rd_T69 c (k : Int)) = false, checkV c f = 140 from fun hbad => by
         unfold checkV
         rw [if_neg HN.out]
         rw [if_neg (by rw [HA0.out]; decide)]
         rw [if_neg (by rw [HA1.out]; decide)]
         exact if_pos (all_bad (memC c k (by omega)) hbad))
       clear hCe HK
       generalize rd_T69 c (k : Int) = x at z0 z1 HCE HM HBAD hce
       obtain ⟨s, g, q, o, hof⟩ : ∃ s g q o, ofF x.f0 = (s, g, q, o) := ⟨_, _, _, _, rfl⟩
       go_wp2_with fail
       have ho := of_calls x.f0 (wr.alloc (.cells #[.int .i64 x.f0, .slice Ae x.f1.length ce] 69))
       rw [hof] at ho
       refine ho.mono ?_
       rintro e w' ⟨rfl, hB'⟩
       have HB' := am (below_then (below_alloc HB2.out _) (below_alloc HB2.out _).size hB')
       clear ho hB'
       have ho : okC1 x = o := by unfold okC1; rw [hof]
       clear hof
       cases o with
       | true =>
        have hb := ho
        clear ho
        go_wp2
        go_roundg gk
        case measure => omega
        case rel => exact ⟨k + 1, by omega, by go_num, ⟨HM.out _ hb rfl⟩, ⟨below_alloc HB'.out _⟩⟩
       | false =>
        have hb := ho
        clear ho
        go_wp2
        go_ret
        exact ⟨by rw [HBAD.out hb]; rfl, below_alloc HB'.out _⟩
      | zero =>
       have hlt : decide ((k : Int) < (c.length : Int)) = false := decide_eq_false (by omega)
       have HA2 : Aside0 (c.all okC1 = true) := ⟨all_C (fun i hi => HK.out i (by omega))⟩
       have hltn2 : decide (k < c.length) = false := decide_eq_false (by omega)
       clear HK hlt
       go_wp2
       try rw [hltn0]
       try rw [hltn1]
       try rw [hltn2]
       go_loopg [68] f.length (fun kq v68 wr => ∃ k : Nat, k + kq = f.length ∧ v68 = .int .i64 (k : Int) ∧ Aside0 (∀ i : Nat, i < k → okF1 c.length (rd_T46 f (i : Int)) = true) ∧ Aside0 (Below w.heap.size w wr))
       case atStart => exact ⟨0, by omega, rfl, ⟨fun i hi => absurd hi (by omega)⟩, ⟨HB2.out⟩⟩
       case round =>
        obtain ⟨k, hk, rfl, HK, HB3⟩ := hrel
        cases gk with
        | succ gk =>
         have hlt : decide ((k : Int) < (f.length : Int)) = true := decide_eq_true (by omega)
         obtain ⟨ad, Ae, ce, rfl, z0, z1, z2, z3, hce, hCe⟩ := at_T46 (Kd.C_below HF.out HB3.out) (k : Int) (by omega) (by omega)
         rw [Int.toNat_natCast] at z0 z1 z2 z3
         have HCE := am hCe
         have HM := am (show ∀ b : Bool, okF1 c.length (rd_T46 f (k : Int)) = b → b = true → ∀ i : Nat, i < k + 1 → okF1 c.length (rd_T46 f (i : Int)) = true from fun b hb ht i hi => by
           rcases Nat.lt_or_eq_of_le (Nat.le_of_lt_succ hi) with h1 | h1
           · exact HK.out i h1
           · rw [h1, hb, ht])
         have HBAD := am (show ∀ hbad : okF1 c.length (rd_T46 f (k : Int)) = false, checkV c f = 140 from fun hbad => by
           unfold checkV
           rw [if_neg HN.out]
           rw [if_neg (by rw [HA0.out]; decide)]
           rw [if_neg (by rw [HA1.out]; decide)]
           rw [if_neg (by rw [HA2.out]; decide)]
           exact if_pos (all_bad (memF f k (by omega)) hbad))
         clear hCe HK
         generalize rd_T46 f (k : Int) = x at z0 z1 z2 z3 HCE HM HBAD hce
         have HO := am (show okF1 c.length x = (decide (0 ≤ x.f0) && decide (x.f0 < c.length) && !farB x.f1 && decide (0 ≤ x.f2) && decide (x.f2 ≤ 1048576)) from rfl)
         by_cases e0 : x.f0 < 0
         ·
          have h0 : decide (x.f0 < 0) = true := decide_eq_true e0
          have hb : okF1 c.length x = false := by rw [HO.out, decide_eq_false (show ¬ 0 ≤ x.f0 by omega)]; rfl
          go_wp2
          go_ret
          exact ⟨by rw [HBAD.out hb]; rfl, below_alloc HB3.out _⟩
         have h0 : decide (x.f0 < 0) = false := decide_eq_false e0
         by_cases e1 : (c.length : Int) ≤ x.f0
         ·
          have h1 : decide ((c.length : Int) ≤ x.f0) = true := decide_eq_true e1
          have hb : okF1 c.length x = false := by rw [HO.out, decide_eq_false (show ¬ x.f0 < (c.length : Int) by omega), Bool.and_false]; rfl
          go_wp2
          go_ret
          exact ⟨by rw [HBAD.out hb]; rfl, below_alloc HB3.out _⟩
         have h1 : decide ((c.length : Int) ≤ x.f0) = false := decide_eq_false e1
         go_wp2_with fail
         obtain ⟨u1, hu1⟩ : ∃ u1, u1 = wr.alloc (.cells #[.int .i64 x.f0, .int .i64 x.f1, .int .i64 x.f2, .slice Ae x.f3.length ce] 46) := ⟨_, rfl⟩
         have HU1 : Aside0 (Below w.heap.size w u1) := ⟨by rw [hu1]; exact below_alloc HB3.out _⟩
         have hG1 := blk_new wr (.cells #[.int .i64 x.f0, .int .i64 x.f1, .int .i64 x.f2, .slice Ae x.f3.length ce] 46)
         have hs1 : u1.heap.size = wr.heap.size + 1 := by rw [hu1]; simp
         rw [← hu1] at hG1 ⊢
         obtain ⟨u2, hu2⟩ : ∃ u2, u2 = u1.alloc (.cells #[.int .i64 x.f1] 3) := ⟨_, rfl⟩
         have HU2 : Aside0 (Below w.heap.size w u2) := ⟨by rw [hu2]; exact below_alloc HU1.out _⟩
         have hN := blk_new u1 (.cells #[.int .i64 x.f1] 3)
         have hG2 := blk_alloc hG1 (.cells #[.int .i64 x.f1] 3)
         rw [hs1] at hN
         rw [← hu2] at hN hG2 ⊢
         clear hu1 hu2 hG1 hs1
         have hcall := ehframe_near.calls 4 (some ⟨wr.heap.size + 1, 0, none⟩) 1 [x.f1] (!farB x.f1) u2 (C_blk (Kd.int .i64) (xs := [x.f1]) hN ((Reps.none _ _).snoc rfl rfl) (by simp)) (by simp) (near1 x.f1 4 (by omega))
         refine hcall.mono ?_
         rintro e w' ⟨rfl, q, rfl⟩
         have HB' := am (pw_below_drewN HU2.out q)
         have y2 : u2.cell? ⟨wr.heap.size, 2, none⟩ = some (.int .i64 x.f2) := (blk_cell hG2 2).trans rfl
         clear hcall hG2
         clear hN
         cases e2 : farB x.f1 with
         | true =>
          have hb : okF1 c.length x = false := by rw [HO.out, e2]; simp
          go_wp2
          go_ret
          exact ⟨by rw [HBAD.out hb]; rfl, HB'.out⟩
         | false =>
          by_cases e3 : x.f2 < 0
          ·
           have h3 : decide (x.f2 < 0) = true := decide_eq_true e3
           have hb : okF1 c.length x = false := by rw [HO.out, decide_eq_false (show ¬ 0 ≤ x.f2 by omega)]; simp
           go_wp2
           go_ret
           exact ⟨by rw [HBAD.out hb]; rfl, HB'.out⟩
          have h3 : decide (x.f2 < 0) = false := decide_eq_false e3
          by_cases e4 : 1048576 < x.f2
          ·
           have h4 : decide (1048576 < x.f2) = true := decide_eq_true e4
           have hb : okF1 c.length x = false := by rw [HO.out, decide_eq_false (show ¬ x.f2 ≤ 1048576 by omega)]; simp
           go_wp2
           go_ret
           exact ⟨by rw [HBAD.out hb]; rfl, HB'.out⟩
          have h4 : decide (1048576 < x.f2) = false := decide_eq_false e4
          have hb : okF1 c.length x = true := by rw [HO.out, e2, decide_eq_true (show 0 ≤ x.f0 by omega), decide_eq_true (show x.f0 < (c.length : Int) by omega), decide_eq_true (show 0 ≤ x.f2 by omega), decide_eq_true (show x.f2 ≤ 1048576 by omega)]; rfl
          go_wp2
          go_roundg gk
          case measure => omega
          case rel => exact ⟨k + 1, by omega, by go_num, ⟨HM.out _ hb rfl⟩, ⟨HB'.out⟩⟩
        | zero =>
         have hlt : decide ((k : Int) < (f.length : Int)) = false := decide_eq_false (by omega)
         have HA3 : Aside0 (f.all (okF1 c.length) = true) := ⟨all_F (fun i hi => HK.out i (by omega))⟩
         have hltn3 : decide (k < f.length) = false := decide_eq_false (by omega)
         clear HK hlt
         go_wp2
         try rw [hltn0]
         try rw [hltn1]
         try rw [hltn2]
         try rw [hltn3]
         go_loopg [102] c.length (fun kq v102 wr => ∃ k : Nat, k + kq = c.length ∧ v102 = .int .i64 (k : Int) ∧ Aside0 (∀ i : Nat, i < k → okC2 (rd_T69 c (i : Int)) = true) ∧ Aside0 (Below w.heap.size w wr))
         case atStart => exact ⟨0, by omega, rfl, ⟨fun i hi => absurd hi (by omega)⟩, ⟨HB3.out⟩⟩
         case round =>
          obtain ⟨k, hk, rfl, HK, HB4⟩ := hrel
          cases gk with
          | succ gk =>
           have hlt : decide ((k : Int) < (c.length : Int)) = true := decide_eq_true (by omega)
           obtain ⟨ad, Ae, ce, rfl, z0, z1, hce, hCe⟩ := at_T69 (Kd.C_below HC.out HB4.out) (k : Int) (by omega) (by omega)
           rw [Int.toNat_natCast] at z0 z1
           have HCE := am hCe
           have HM := am (show ∀ b : Bool, okC2 (rd_T69 c (k : Int)) = b → b = true → ∀ i : Nat, i < k + 1 → okC2 (rd_T69 c (i : Int)) = true from fun b hb ht i hi => by
             rcases Nat.lt_or_eq_of_le (Nat.le_of_lt_succ hi) with h1 | h1
             · exact HK.out i h1
             · rw [h1, hb, ht])
           have HBAD := am (show ∀ hbad : okC2 (rd_T69 c (k : Int)) = false, checkV c f = 130 from fun hbad => by
             unfold checkV
             rw [if_neg HN.out]
             rw [if_neg (by rw [HA0.out]; decide)]
             rw [if_neg (by rw [HA1.out]; decide)]
             rw [if_neg (by rw [HA2.out]; decide)]
             rw [if_neg (by rw [HA3.out]; decide)]
             exact if_pos (all_bad (memC c k (by omega)) hbad))
           clear hCe HK
           generalize rd_T69 c (k : Int) = x at z0 z1 HCE HM HBAD hce
           obtain ⟨R, hR⟩ : ∃ R, Cfa.rowsOf (Cfa.opl x.f1) (Cfa.opl []) 0 = R := ⟨_, rfl⟩
           have ho : okC2 x = decide (R.2 = 0) := by unfold okC2; rw [hR]
           go_wp2_with fail
           refine (Cfa.check_calls Ae ce x.f1 none 0 [] 0 _ (Kd.C_alloc HCE.out _) (Kd.C_nil _ _) R hR).mono ?_
           rintro e w' ⟨rfl, hB'⟩
           have HB' := am (below_then (below_alloc HB4.out _) (below_alloc HB4.out _).size hB')
           clear hB' hR
           by_cases e0 : R.2 = 0
           ·
            have hx : (R.2 != 0) = false := by simp [e0]
            have hb : okC2 x = true := by rw [ho, decide_eq_true e0]
            go_wp2
            go_roundg gk
            case measure => omega
            case rel => exact ⟨k + 1, by omega, by go_num, ⟨HM.out _ hb rfl⟩, ⟨HB'.out⟩⟩
           have hx : (R.2 != 0) = true := by simp [e0]
           have hb : okC2 x = false := by rw [ho, decide_eq_false e0]
           go_wp2
           go_ret
           exact ⟨by rw [HBAD.out hb]; rfl, HB'.out⟩
          | zero =>
           have hlt : decide ((k : Int) < (c.length : Int)) = false := decide_eq_false (by omega)
           have HA4 : Aside0 (c.all okC2 = true) := ⟨all_C (fun i hi => HK.out i (by omega))⟩
           have hltn4 : decide (k < c.length) = false := decide_eq_false (by omega)
           clear HK hlt
           go_wp2
           try rw [hltn0]
           try rw [hltn1]
           try rw [hltn2]
           try rw [hltn3]
           try rw [hltn4]
           go_loopg [113] f.length (fun kq v113 wr => ∃ k : Nat, k + kq = f.length ∧ v113 = .int .i64 (k : Int) ∧ Aside0 (∀ i : Nat, i < k → okF2 c (rd_T46 f (i : Int)) = true) ∧ Aside0 (Below w.heap.size w wr))
           case atStart => exact ⟨0, by omega, rfl, ⟨fun i hi => absurd hi (by omega)⟩, ⟨HB4.out⟩⟩
           case round =>
            obtain ⟨k, hk, rfl, HK, HB5⟩ := hrel
            cases gk with
            | succ gk =>
             have hlt : decide ((k : Int) < (f.length : Int)) = true := decide_eq_true (by omega)
             obtain ⟨ad, Ae, ce, rfl, z0, z1, z2, z3, hce, hCe⟩ := at_T46 (Kd.C_below HF.out HB5.out) (k : Int) (by omega) (by omega)
             rw [Int.toNat_natCast] at z0 z1 z2 z3
             have HCE := am hCe
             have HM := am (show ∀ b : Bool, okF2 c (rd_T46 f (k : Int)) = b → b = true → ∀ i : Nat, i < k + 1 → okF2 c (rd_T46 f (i : Int)) = true from fun b hb ht i hi => by
               rcases Nat.lt_or_eq_of_le (Nat.le_of_lt_succ hi) with h1 | h1
               · exact HK.out i h1
               · rw [h1, hb, ht])
             have HBAD := am (show ∀ hbad : okF2 c (rd_T46 f (k : Int)) = false, checkV c f = 130 from fun hbad => by
               unfold checkV
               rw [if_neg HN.out]
               rw [if_neg (by rw [HA0.out]; decide)]
               rw [if_neg (by rw [HA1.out]; decide)]
               rw [if_neg (by rw [HA2.out]; decide)]
               rw [if_neg (by rw [HA3.out]; decide)]
               rw [if_neg (by rw [HA4.out]; decide)]
               exact if_pos (all_bad (memF f k (by omega)) hbad))
             clear hCe HK
             have hok := List.all_eq_true.1 HA3.out _ (memF f k (by omega))
             generalize rd_T46 f (k : Int) = x at z0 z1 z2 z3 HCE HM HBAD hok hce
             unfold okF1 at hok
             simp only [Bool.and_eq_true, decide_eq_true_eq] at hok
             obtain ⟨⟨⟨⟨o0, o1⟩, _⟩, _⟩, _⟩ := hok
             obtain ⟨adc, Ac, cc, rfl, y0, y1, hcc, hCc⟩ := at_T69 (Kd.C_below HC.out HB5.out) x.f0 o0 o1
             have HCC := am hCc
             obtain ⟨R, hR⟩ : ∃ R, Cfa.rowsOf (Cfa.opl (rd_T69 c x.f0).f1) (Cfa.opl x.f3) x.f2 = R := ⟨_, rfl⟩
             have ho : okF2 c x = decide (R.2 = 0) := by unfold okF2; rw [hR]
             generalize rd_T69 c x.f0 = y at y0 y1 hcc HCC hR
             clear hCc y0
             go_upto_region 37 with fail
             have hG := blk_new wr (.cells #[.int .i64 x.f0, .int .i64 x.f1, .int .i64 x.f2, .slice Ae x.f3.length ce] 46)
             have hBg := below_alloc (Below.refl wr.heap.size wr) (.cells #[.int .i64 x.f0, .int .i64 x.f1, .int .i64 x.f2, .slice Ae x.f3.length ce] 46)
             obtain ⟨u, hu⟩ : ∃ u, u = wr.alloc (.cells #[.int .i64 x.f0, .int .i64 x.f1, .int .i64 x.f2, .slice Ae x.f3.length ce] 46) := ⟨_, rfl⟩
             rw [← hu] at hG hBg ⊢
             have HU := am (below_then HB5.out HB5.out.size hBg)
             have HCE' := am (Kd.C_below HCE.out hBg)
             have HCC' := am (Kd.C_below HCC.out hBg)
             have y1' := pw_cell_below hBg y1
             clear hu hBg z0 z1 z2 z3 y1
             refine start_ (n := 12) (S := fun u => u.cell? ⟨wr.heap.size, 0, none⟩ = some (.int .i64 x.f0) ∧ u.cell? ⟨wr.heap.size, 3, none⟩ = some (.slice Ae x.f3.length ce) ∧ u.cell? ⟨wr.heap.size, 2, none⟩ = some (.int .i64 x.f2) ∧ u.cell? ⟨(adc.add (x.f0.toNat * 2)).block, (adc.add (x.f0.toNat * 2)).off + 1, none⟩ = some (.slice Ac y.f1.length cc)) (ds := [10]) (bm 12 0) (by kernel_rfl) rfl rfl ?_ (fun hHeld => ?_)
             case refine_1 => exact ⟨(blk_cell (blk_drew hG) 0).trans rfl, (blk_cell (blk_drew hG) 3).trans rfl, (blk_cell (blk_drew hG) 2).trans rfl, y1'⟩
             refine pure_ (i := 0) (N := some 117) (v := ?_) (a' := ?_) (bm 12 1) rfl rfl (by kernel_rfl) (fun _ _ _ h => h) (Or.inl ⟨by rfl, ?_⟩) ?_ ?_
             rotate_left
             ·
              intro u
              go_simp
              with_reducible rfl
             rotate_left
             ·
              simp only [pz]
              rfl
             refine pure_ (i := 1) (N := some 118) (v := ?_) (a' := ?_) (bm 12 3) rfl rfl (by kernel_rfl) (fun _ _ _ h => h) (Or.inl ⟨by rfl, ?_⟩) ?_ ?_
             rotate_left
             ·
              intro u
              go_simp
              with_reducible rfl
             rotate_left
             ·
              simp only [pz]
              rfl
             refine take_ (i := 2) (N := some 119) (v := ?_) (a' := ?_) (bm 12 7) rfl rfl (by kernel_rfl) (fun _ _ _ h => h) (Or.inl ⟨by rfl, ?_⟩) hHeld ?_ ?_
             rotate_left
             ·
              rintro u ⟨s0, s1, s2, s3⟩
              go_simp
              with_reducible rfl
             rotate_left
             ·
              simp only [pz]
              rfl
             refine pure_ (i := 3) (N := some 120) (v := ?_) (a' := ?_) (bm 12 15) rfl rfl (by kernel_rfl) (fun _ _ _ h => h) (Or.inl ⟨by rfl, ?_⟩) ?_ ?_
             rotate_left
             ·
              intro u
              go_simp
              with_reducible rfl
             rotate_left
             ·
              simp only [pz]
              rfl
             refine pure_ (i := 4) (N := some 121) (v := ?_) (a' := ?_) (bm 12 31) rfl rfl (by kernel_rfl) (fun _ _ _ h => h) (Or.inl ⟨by rfl, ?_⟩) ?_ ?_
             rotate_left
             ·
              intro u
              go_simp
              with_reducible rfl
             rotate_left
             ·
              simp only [pz]
              rfl
             refine take_ (i := 5) (N := some 122) (v := ?_) (a' := ?_) (bm 12 63) rfl rfl (by kernel_rfl) (fun _ _ _ h => h) (Or.inl ⟨by rfl, ?_⟩) hHeld ?_ ?_
             rotate_left
             ·
              rintro u ⟨s0, s1, s2, s3⟩
              go_simp
              with_reducible rfl
             rotate_left
             ·
              simp only [pz]
              rfl
             refine pure_ (i := 6) (N := some 123) (v := ?_) (a' := ?_) (bm 12 127) rfl rfl (by kernel_rfl) (fun _ _ _ h => h) (Or.inl ⟨by rfl, ?_⟩) ?_ ?_
             rotate_left
             ·
              intro u
              go_simp
              with_reducible rfl
             rotate_left
             ·
              simp only [pz]
              rfl
             refine take_ (i := 7) (N := some 124) (v := ?_) (a' := ?_) (bm 12 255) rfl rfl (by kernel_rfl) (fun _ _ _ h => h) (Or.inl ⟨by rfl, ?_⟩) hHeld ?_ ?_
             rotate_left
             ·
              rintro u ⟨s0, s1, s2, s3⟩
              go_simp
              with_reducible rfl
             rotate_left
             ·
              simp only [pz]
              rfl
             refine pure_ (i := 8) (N := some 125) (v := ?_) (a' := ?_) (bm 12 511) rfl rfl (by kernel_rfl) (fun _ _ _ h => h) (Or.inl ⟨by rfl, ?_⟩) ?_ ?_
             rotate_left
             ·
              intro u
              go_simp
              with_reducible rfl
             rotate_left
             ·
              simp only [pz]
              rfl
             refine take_ (i := 9) (N := some 126) (v := ?_) (a' := ?_) (bm 12 1023) rfl rfl (by kernel_rfl) (fun _ _ _ h => h) (Or.inl ⟨by rfl, ?_⟩) hHeld ?_ ?_
             rotate_left
             ·
              rintro u ⟨s0, s1, s2, s3⟩
              go_simp
              with_reducible rfl
             rotate_left
             ·
              simp only [pz]
              rfl
             refine last_ (i := 10) (N := some 127) (bm 12 2047) rfl rfl (by kernel_rfl) (by decide) (fun K hK => ?_)
             refine call_ 31 #[.slice Ac y.f1.length cc, .slice Ae x.f3.length ce, .int .i64 x.f2] (by rfl) rfl (by go_simp) ?_
             refine (Cfa.check_calls Ac cc y.f1 Ae ce x.f3 x.f2 _ (Kd.C_drew HCC'.out) (Kd.C_drew HCE'.out) R hR).mono ?_
             rintro e w' ⟨rfl, hB'⟩
             refine ⟨_, rfl, ?_⟩
             have HB' := am (below_then (below_drew HU.out) (below_drew HU.out).size hB')
             clear hB' hR hHeld
             refine hK.out _ _ ?_
             clear hK K
             refine norm_ (a' := ?_) ?_ ?_
             rotate_left
             ·
              show Act.put _ (some 127) _ = _
              simp only [pz]
              rfl
             refine pure_ (i := 11) (N := some 128) (v := ?_) (a' := ?_) (bm 12 4095) rfl rfl (by kernel_rfl) (fun _ _ _ h => h) (Or.inl ⟨by rfl, ?_⟩) ?_ ?_
             rotate_left
             ·
              intro u
              go_simp
              with_reducible rfl
             rotate_left
             ·
              simp only [pz]
              rfl
             refine done_ (by kernel_rfl) ?_
             by_cases e0 : R.2 = 0
             ·
              have hx : (R.2 != 0) = false := by simp [e0]
              have hb : okF2 c x = true := by rw [ho, decide_eq_true e0]
              go_wp2
              go_roundg gk
              case measure => omega
              case rel => exact ⟨k + 1, by omega, by go_num, ⟨HM.out _ hb rfl⟩, ⟨HB'.out⟩⟩
             have hx : (R.2 != 0) = true := by simp [e0]
             have hb : okF2 c x = false := by rw [ho, decide_eq_false e0]
             go_wp2
             go_ret
             exact ⟨by rw [HBAD.out hb]; rfl, HB'.out⟩
            | zero =>
             have hlt : decide ((k : Int) < (f.length : Int)) = false := decide_eq_false (by omega)
             have HA5 : Aside0 (f.all (okF2 c) = true) := ⟨all_F (fun i hi => HK.out i (by omega))⟩
             have hltn5 : decide (k < f.length) = false := decide_eq_false (by omega)
             clear HK hlt
             go_wp2
             go_ret
             refine ⟨?_, HB5.out⟩
             unfold checkV
             rw [if_neg HN.out, HA0.out, HA1.out, HA2.out, HA3.out, HA4.out, HA5.out]
             rfl
end Go.Proofs.Ytfgfnflhdabmcaa.Eh
end
section
namespace Go.Proofs.Ytfgfnflhdabmcaa.G
open Go.RowKit Go.Proofs.YtfgfnflhdabmcaaW.PrintWords Go.Proofs.YtfgfnflhdabmcaaW.PrintLast Go.Proofs.YtfgfnflhdabmcaaW.PrintMore
attribute [local go_sem] max2_int min2_int max_two min_two max_three min_three max_four min_four
def ehframe_Check.f (k : Nat) (l0 : List S69) (l1 : List S46) : Option Int := some (Eh.checkV l0 l1)
theorem ehframe_Check.mono : ∀ a0 a1 k, LeO (ehframe_Check.f k a0 a1) (ehframe_Check.f (k + 1) a0 a1) := fun _ _ _ => LeO.refl _
theorem ehframe_Check.calls (k : Nat) (A0 : Option Addr) (c0 : Nat) (l0 : List S69) (A1 : Option Addr) (c1 : Nat) (l1 : List S46) (r : Int) (w : World) (hr0 : Kd.C k69 w A0 l0.length l0) (hc0 : l0.length ≤ c0) (hr1 : Kd.C k46 w A1 l1.length l1) (hc1 : l1.length ≤ c1) (h : ehframe_Check.f k l0 l1 = some r) :
    Calls Try.prog 12 #[.slice A0 l0.length c0, .slice A1 l1.length c1] w fun e w' => e = .returned (.int .i64 r) ∧ Below w.heap.size w w' := by
 obtain rfl := Option.some.inj h
 exact Eh.check_calls A0 c0 l0 A1 c1 l1 w hr0 hc0 hr1 hc1
def ehframe_of.f (a0 : Int) : Option (Int × Bool × Int × Bool) := some (EhOf.ofF a0)
theorem ehframe_of.calls (a0 r1 : Int) (r2 : Bool) (r3 : Int) (r4 : Bool) (w : World) (h : ehframe_of.f a0 = some (r1, r2, r3, r4)) :
    Calls Try.prog 29 #[.int .i64 a0] w fun e w' => e = .returned (.tuple #[.agg #[.int .i64 r1, .bool r2], .int .i64 r3, .bool r4]) ∧ Below w.heap.size w w' := by
 have e := Option.some.inj h
 have hc := EhOf.of_calls a0 w
 rw [e] at hc
 exact hc
def leb_Sleb.l0 : Nat → Int → List Int → Option (List Int)
  | 0, _, _ => none
  | k + 1, x0, x3 => if x0 < (-64) then (if x3.length < 140737488355328 then (leb_Sleb.l0 k (x0 / 128) (x3 ++ [Go.bits .or .u8 ((x0) % 256) 128])) else (none)) else (if x0 > 63 then (if x3.length < 140737488355328 then (leb_Sleb.l0 k (x0 / 128) (x3 ++ [Go.bits .or .u8 ((x0) % 256) 128])) else (none)) else (if x3.length < 140737488355328 then (some (x3 ++ [Go.bits .and .u8 ((x0) % 256) 127])) else (none)))
def leb_Sleb.f (k : Nat) (a0 : Int) : Option (List Int) := leb_Sleb.l0 k a0 ([] : List Int)
theorem leb_Sleb.mono_l : ∀ k, (∀ y0 y1, LeO (leb_Sleb.l0 k y0 y1) (leb_Sleb.l0 (k + 1) y0 y1))
  | 0 => fun _ _ r h => by simp [leb_Sleb.l0] at h
  | k + 1 => by
    have ih0 := leb_Sleb.mono_l k
    · intro y0 y1
      unfold leb_Sleb.l0
      repeat' first
      | (with_reducible exact ih0 _ _)
      | (with_reducible exact LeO.refl _)
      | (with_reducible exact LeO.none _)
      | (with_reducible refine LeO.ite ?_ ?_)
      | (with_reducible refine LeO.bind ?_ (fun _ => ?_))
      | exact ih0 _ _
      | exact LeO.none _
      | refine LeO.ite ?_ ?_
      | refine LeO.bind ?_ (fun _ => ?_)
theorem leb_Sleb.mono : ∀ a0 k, LeO (leb_Sleb.f k a0) (leb_Sleb.f (k + 1) a0) := by
 intro a0 k
 have ih0 := leb_Sleb.mono_l k
 unfold leb_Sleb.f
 repeat' first
     | (with_reducible exact ih0 _ _)
     | (with_reducible exact LeO.refl _)
     | (with_reducible exact LeO.none _)
     | (with_reducible refine LeO.ite ?_ ?_)
     | (with_reducible refine LeO.bind ?_ (fun _ => ?_))
     | exact ih0 _ _
     | exact LeO.none _
     | refine LeO.ite ?_ ?_
     | refine LeO.bind ?_ (fun _ => ?_)
set_option maxHeartbeats 8000000 in
theorem leb_Sleb.calls (k : Nat) (a0 : Int) (r : List Int) (w : World) (h : leb_Sleb.f k a0 = some r) :
    Calls Try.prog 37 #[.int .i64 a0] w fun e w' => ∃ v0_ : Value, e = .returned (v0_) ∧ Kd.R (Kd.int .u8) 5 w' w.heap.size (fun _ => True) v0_ r ∧ Below w.heap.size w w' := by
 have HB := am (Below.refl w.heap.size w)
 have H : (leb_Sleb.l0 k a0 ([] : List Int)) = some r := h
 clear h
 have H' := am H
 clear H
 go_enter Try.func37, Try.ntmps37
 go_wp2
 go_loopg [0, 3] k (fun kq v0 v3 w' => ∃ (x0_1 : Int) (x3_1 : List Int), v0 = .int .i64 x0_1 ∧ Aside0 (leb_Sleb.l0 kq x0_1 x3_1 = some r) ∧ Aside0 (kq ≤ k) ∧ Aside0 (Kd.R (Kd.int .u8) 5 w' w.heap.size (fun _ => True) v3 x3_1) ∧ Aside0 (Below w.heap.size w w'))
 case atStart => exact ⟨(a0), (([] : List Int)), (by first | rfl | (simp; done) | (simp [*]; done)), H', ⟨Nat.le_refl _⟩, ⟨by first | exact Kd.R_nil _ _ _ _ _ | exact Kd.N_nil _ _ _ _ _⟩, ⟨by exact bl_g HB.out⟩⟩
 case round =>
  clear H'
  obtain ⟨x0_1, x3_1, rfl, HA, HK1, HO_3, HB⟩ := hrel
  cases gk with
  | zero => exact absurd HA.out (by simp [leb_Sleb.l0])
  | succ k1 =>
   have H := HA.out
   clear HA
   simp only [leb_Sleb.l0] at H
   by_cases c2 : x0_1 < (-64)
   ·
    rw [if_pos c2] at H
    have c2b0 : decide (x0_1 < (-64)) = true := decide_eq_true c2
    clear c2
    by_cases c3 : x3_1.length < 140737488355328
    rotate_left
    ·
     rw [if_neg c3] at H
     exact absurd H (by simp)
    rw [if_pos c3] at H
    have LMc3 := am c3
    clear c3
    obtain ⟨y101, hy101⟩ : ∃ y_ : List Int, y_ = (x3_1 ++ [Go.bits .or .u8 ((x0_1) % 256) 128]) := ⟨_, rfl⟩
    replace H : (leb_Sleb.l0 k1 (x0_1 / 128) y101) = some r := by first | (rw [hy101]; with_reducible exact H) | (have H2_ := (Option.bind_some _ _).symm.trans H; rw [hy101]; with_reducible exact H2_)
    have Ny101 := am hy101
    clear hy101
    have H' := am H
    clear H
    go_wp2_with (first | ((with_reducible refine gate_builtin (b := .append) (xs := #[.tmp 12, .tmp 16]) rfl ?_); at_builtin; refine Kd.R_append (Kd.int .u8) (w0 := w) w.heap.size rfl (.tmp 12) (.tmp 16) 28 5 (.int .u8 0) 1 rfl Try.underlying28 info5 rfl (by decide) (by omega) u3 x3_1 (Go.bits .or .u8 ((x0_1) % 256) 128) [.int .u8 (Go.bits .or .u8 ((x0_1) % 256) 128)] (fun _ => True) (fun _ => False) rfl rfl ?aP (fun _ hk => hk.elim) ?aF ?aO ?aB ?aS ?aL ?_; (case aP => exact rfl); (case aB => exact (by exact bl_o HB.out)); (case aF => exact (fun _ _ => trivial)); (case aO => exact (Kd.R_o HO_3.out)); (case aS => exact (below_size (by exact bl_o HB.out))); (case aL => have := LMc3.out; omega); intro v102 w4 ho hb hg hat; rw [← Ny101.out] at ho; refine mv2 (am (hb)) (am (ho)) ?_; clear HB HO_3; intro HB HO103; clear ho hb hg hat))
    go_roundg k1
    case measure => have := HK1.out; omega
    case rel => exact ⟨(x0_1 / 128), (y101), (by first | rfl | (simp; done) | (simp [*]; done)), H', ⟨by have := HK1.out; omega⟩, ⟨by (with_reducible repeat (first | apply Kd.R_alloc | apply Kd.R_drewN | apply Kd.R_drew)); exact HO103.out⟩, ⟨by exact bl_g HB.out⟩⟩
   rw [if_neg c2] at H
   have c2b0 : decide (x0_1 < (-64)) = false := decide_eq_false c2
   clear c2
   by_cases c5 : x0_1 > 63
   ·
    rw [if_pos c5] at H
    have c5b0 : decide (63 < x0_1) = true := decide_eq_true c5
    clear c5
    by_cases c6 : x3_1.length < 140737488355328
    rotate_left
    ·
     rw [if_neg c6] at H
     exact absurd H (by simp)
    rw [if_pos c6] at H
    have LMc6 := am c6
    clear c6
    obtain ⟨y104, hy104⟩ : ∃ y_ : List Int, y_ = (x3_1 ++ [Go.bits .or .u8 ((x0_1) % 256) 128]) := ⟨_, rfl⟩
    replace H : (leb_Sleb.l0 k1 (x0_1 / 128) y104) = some r := by first | (rw [hy104]; with_reducible exact H) | (have H2_ := (Option.bind_some _ _).symm.trans H; rw [hy104]; with_reducible exact H2_)
    have Ny104 := am hy104
    clear hy104
    have H' := am H
    clear H
    go_wp2_with (first | ((with_reducible refine gate_builtin (b := .append) (xs := #[.tmp 12, .tmp 16]) rfl ?_); at_builtin; refine Kd.R_append (Kd.int .u8) (w0 := w) w.heap.size rfl (.tmp 12) (.tmp 16) 28 5 (.int .u8 0) 1 rfl Try.underlying28 info5 rfl (by decide) (by omega) u3 x3_1 (Go.bits .or .u8 ((x0_1) % 256) 128) [.int .u8 (Go.bits .or .u8 ((x0_1) % 256) 128)] (fun _ => True) (fun _ => False) rfl rfl ?aP (fun _ hk => hk.elim) ?aF ?aO ?aB ?aS ?aL ?_; (case aP => exact rfl); (case aB => exact (by exact bl_o HB.out)); (case aF => exact (fun _ _ => trivial)); (case aO => exact (Kd.R_o HO_3.out)); (case aS => exact (below_size (by exact bl_o HB.out))); (case aL => have := LMc6.out; omega); intro v105 w7 ho hb hg hat; rw [← Ny104.out] at ho; refine mv2 (am (hb)) (am (ho)) ?_; clear HB HO_3; intro HB HO106; clear ho hb hg hat))
    go_roundg k1
    case measure => have := HK1.out; omega
    case rel => exact ⟨(x0_1 / 128), (y104), (by first | rfl | (simp; done) | (simp [*]; done)), H', ⟨by have := HK1.out; omega⟩, ⟨by (with_reducible repeat (first | apply Kd.R_alloc | apply Kd.R_drewN | apply Kd.R_drew)); exact HO106.out⟩, ⟨by exact bl_g HB.out⟩⟩
   rw [if_neg c5] at H
   have c5b0 : decide (63 < x0_1) = false := decide_eq_false c5
   clear c5
   by_cases c8 : x3_1.length < 140737488355328
   rotate_left
   ·
    rw [if_neg c8] at H
    exact absurd H (by simp)
   rw [if_pos c8] at H
   have LMc8 := am c8
   clear c8
   obtain ⟨y107, hy107⟩ : ∃ y_ : List Int, y_ = (x3_1 ++ [Go.bits .and .u8 ((x0_1) % 256) 127]) := ⟨_, rfl⟩
   replace H : (some y107) = some r := by first | (rw [hy107]; with_reducible exact H) | (have H2_ := (Option.bind_some _ _).symm.trans H; rw [hy107]; with_reducible exact H2_)
   have Ny107 := am hy107
   clear hy107
   obtain rfl := Option.some.inj H
   go_wp2_with (first | ((with_reducible refine gate_builtin (b := .append) (xs := #[.tmp 18, .tmp 22]) rfl ?_); at_builtin; refine Kd.R_append (Kd.int .u8) (w0 := w) w.heap.size rfl (.tmp 18) (.tmp 22) 28 5 (.int .u8 0) 1 rfl Try.underlying28 info5 rfl (by decide) (by omega) u3 x3_1 (Go.bits .and .u8 ((x0_1) % 256) 127) [.int .u8 (Go.bits .and .u8 ((x0_1) % 256) 127)] (fun _ => True) (fun _ => False) rfl rfl ?aP (fun _ hk => hk.elim) ?aF ?aO ?aB ?aS ?aL ?_; (case aP => exact rfl); (case aB => exact (by exact bl_o HB.out)); (case aF => exact (fun _ _ => trivial)); (case aO => exact (Kd.R_o HO_3.out)); (case aS => exact (below_size (by exact bl_o HB.out))); (case aL => have := LMc8.out; omega); intro v108 w9 ho hb hg hat; rw [← Ny107.out] at ho; refine mv2 (am (hb)) (am (ho)) ?_; clear HB HO_3; intro HB HO109; clear ho hb hg hat))
   go_ret
   exact ⟨_, rfl, by (with_reducible repeat (first | apply Kd.R_alloc | apply Kd.R_drewN | apply Kd.R_drew)); exact HO109.out, by exact bl_g HB.out⟩
def leb_Uleb.l0 : Nat → List Int → Int → Option (List Int)
  | 0, _, _ => none
  | k + 1, x3, x4 => if x4 > 127 then (if x3.length < 140737488355328 then (leb_Uleb.l0 k (x3 ++ [Go.bits .or .u8 ((x4) % 256) 128]) (x4 / 128)) else (none)) else (if x3.length < 140737488355328 then (some (x3 ++ [(x4) % 256])) else (none))
def leb_Uleb.f (k : Nat) (a0 : Int) : Option (List Int) := leb_Uleb.l0 k ([] : List Int) (IntKind.u64.wrap (a0))
theorem leb_Uleb.mono_l : ∀ k, (∀ y0 y1, LeO (leb_Uleb.l0 k y0 y1) (leb_Uleb.l0 (k + 1) y0 y1))
  | 0 => fun _ _ r h => by simp [leb_Uleb.l0] at h
  | k + 1 => by
    have ih0 := leb_Uleb.mono_l k
    · intro y0 y1
      unfold leb_Uleb.l0
      repeat' first
      | (with_reducible exact ih0 _ _)
      | (with_reducible exact LeO.refl _)
      | (with_reducible exact LeO.none _)
      | (with_reducible refine LeO.ite ?_ ?_)
      | (with_reducible refine LeO.bind ?_ (fun _ => ?_))
      | exact ih0 _ _
      | exact LeO.none _
      | refine LeO.ite ?_ ?_
      | refine LeO.bind ?_ (fun _ => ?_)
theorem leb_Uleb.mono : ∀ a0 k, LeO (leb_Uleb.f k a0) (leb_Uleb.f (k + 1) a0) := by
 intro a0 k
 have ih0 := leb_Uleb.mono_l k
 unfold leb_Uleb.f
 repeat' first
     | (with_reducible exact ih0 _ _)
     | (with_reducible exact LeO.refl _)
     | (with_reducible exact LeO.none _)
     | (with_reducible refine LeO.ite ?_ ?_)
     | (with_reducible refine LeO.bind ?_ (fun _ => ?_))
     | exact ih0 _ _
     | exact LeO.none _
     | refine LeO.ite ?_ ?_
     | refine LeO.bind ?_ (fun _ => ?_)
set_option maxHeartbeats 8000000 in
theorem leb_Uleb.calls (k : Nat) (a0 : Int) (r : List Int) (w : World) (h : leb_Uleb.f k a0 = some r) :
    Calls Try.prog 38 #[.int .i64 a0] w fun e w' => ∃ v0_ : Value, e = .returned (v0_) ∧ Kd.R (Kd.int .u8) 5 w' w.heap.size (fun _ => True) v0_ r ∧ Below w.heap.size w w' := by
 have HB := am (Below.refl w.heap.size w)
 have H : (leb_Uleb.l0 k ([] : List Int) (IntKind.u64.wrap (a0))) = some r := h
 clear h
 have H' := am H
 clear H
 go_enter Try.func38, Try.ntmps38
 go_wp2
 go_loopg [3, 4] k (fun kq v3 v4 w' => ∃ (x3_1 : List Int) (x4_1 : Int), v4 = .int .u64 x4_1 ∧ Aside0 (leb_Uleb.l0 kq x3_1 x4_1 = some r) ∧ Aside0 (kq ≤ k) ∧ Aside0 (Kd.R (Kd.int .u8) 5 w' w.heap.size (fun _ => True) v3 x3_1) ∧ Aside0 (Below w.heap.size w w'))
 case atStart => exact ⟨(([] : List Int)), (IntKind.u64.wrap (a0)), (by first | rfl | (simp; done) | (simp [*]; done)), H', ⟨Nat.le_refl _⟩, ⟨by first | exact Kd.R_nil _ _ _ _ _ | exact Kd.N_nil _ _ _ _ _⟩, ⟨by exact bl_g HB.out⟩⟩
 case round =>
  clear H'
  obtain ⟨x3_1, x4_1, rfl, HA, HK1, HO_3, HB⟩ := hrel
  cases gk with
  | zero => exact absurd HA.out (by simp [leb_Uleb.l0])
  | succ k1 =>
   have H := HA.out
   clear HA
   simp only [leb_Uleb.l0] at H
   by_cases c2 : x4_1 > 127
   ·
    rw [if_pos c2] at H
    have c2b0 : decide (127 < x4_1) = true := decide_eq_true c2
    clear c2
    by_cases c3 : x3_1.length < 140737488355328
    rotate_left
    ·
     rw [if_neg c3] at H
     exact absurd H (by simp)
    rw [if_pos c3] at H
    have LMc3 := am c3
    clear c3
    obtain ⟨y101, hy101⟩ : ∃ y_ : List Int, y_ = (x3_1 ++ [Go.bits .or .u8 ((x4_1) % 256) 128]) := ⟨_, rfl⟩
    replace H : (leb_Uleb.l0 k1 y101 (x4_1 / 128)) = some r := by first | (rw [hy101]; with_reducible exact H) | (have H2_ := (Option.bind_some _ _).symm.trans H; rw [hy101]; with_reducible exact H2_)
    have Ny101 := am hy101
    clear hy101
    have H' := am H
    clear H
    go_wp2_with (first | ((with_reducible refine gate_builtin (b := .append) (xs := #[.tmp 11, .tmp 15]) rfl ?_); at_builtin; refine Kd.R_append (Kd.int .u8) (w0 := w) w.heap.size rfl (.tmp 11) (.tmp 15) 28 5 (.int .u8 0) 1 rfl Try.underlying28 info5 rfl (by decide) (by omega) u3 x3_1 (Go.bits .or .u8 ((x4_1) % 256) 128) [.int .u8 (Go.bits .or .u8 ((x4_1) % 256) 128)] (fun _ => True) (fun _ => False) rfl rfl ?aP (fun _ hk => hk.elim) ?aF ?aO ?aB ?aS ?aL ?_; (case aP => exact rfl); (case aB => exact (by exact bl_o HB.out)); (case aF => exact (fun _ _ => trivial)); (case aO => exact (Kd.R_o HO_3.out)); (case aS => exact (below_size (by exact bl_o HB.out))); (case aL => have := LMc3.out; omega); intro v102 w4 ho hb hg hat; rw [← Ny101.out] at ho; refine mv2 (am (hb)) (am (ho)) ?_; clear HB HO_3; intro HB HO103; clear ho hb hg hat))
    go_roundg k1
    case measure => have := HK1.out; omega
    case rel => exact ⟨(y101), (x4_1 / 128), (by first | rfl | (simp; done) | (simp [*]; done)), H', ⟨by have := HK1.out; omega⟩, ⟨by (with_reducible repeat (first | apply Kd.R_alloc | apply Kd.R_drewN | apply Kd.R_drew)); exact HO103.out⟩, ⟨by exact bl_g HB.out⟩⟩
   rw [if_neg c2] at H
   have c2b0 : decide (127 < x4_1) = false := decide_eq_false c2
   clear c2
   by_cases c5 : x3_1.length < 140737488355328
   rotate_left
   ·
    rw [if_neg c5] at H
    exact absurd H (by simp)
   rw [if_pos c5] at H
   have LMc5 := am c5
   clear c5
   obtain ⟨y104, hy104⟩ : ∃ y_ : List Int, y_ = (x3_1 ++ [(x4_1) % 256]) := ⟨_, rfl⟩
   replace H : (some y104) = some r := by first | (rw [hy104]; with_reducible exact H) | (have H2_ := (Option.bind_some _ _).symm.trans H; rw [hy104]; with_reducible exact H2_)
   have Ny104 := am hy104
   clear hy104
   obtain rfl := Option.some.inj H
   go_wp2_with (first | ((with_reducible refine gate_builtin (b := .append) (xs := #[.tmp 17, .tmp 20]) rfl ?_); at_builtin; refine Kd.R_append (Kd.int .u8) (w0 := w) w.heap.size rfl (.tmp 17) (.tmp 20) 28 5 (.int .u8 0) 1 rfl Try.underlying28 info5 rfl (by decide) (by omega) u3 x3_1 ((x4_1) % 256) [.int .u8 ((x4_1) % 256)] (fun _ => True) (fun _ => False) rfl rfl ?aP (fun _ hk => hk.elim) ?aF ?aO ?aB ?aS ?aL ?_; (case aP => exact rfl); (case aB => exact (by exact bl_o HB.out)); (case aF => exact (fun _ _ => trivial)); (case aO => exact (Kd.R_o HO_3.out)); (case aS => exact (below_size (by exact bl_o HB.out))); (case aL => have := LMc5.out; omega); intro v105 w6 ho hb hg hat; rw [← Ny104.out] at ho; refine mv2 (am (hb)) (am (ho)) ?_; clear HB HO_3; intro HB HO106; clear ho hb hg hat))
   go_ret
   exact ⟨_, rfl, by (with_reducible repeat (first | apply Kd.R_alloc | apply Kd.R_drewN | apply Kd.R_drew)); exact HO106.out, by exact bl_g HB.out⟩
def leb_Fits.j0 : Nat → Int → Int → Bool → Bool → Option (Bool)
  | 0, _, _, _, _ => none
  | k + 1, x0, x1, x2, x7 => if x7 = true then (some false) else (if x2 = true then (if x1 = 64 then (some true) else (if 0 ≤ (wrap64 (x1 - 1)) then (if x0 ≥ (shl .i64 (-1) (wrap64 (x1 - 1))) then (some (decide (x0 < (shl .i64 1 (wrap64 (x1 - 1)))))) else (some false)) else (none))) else (if x0 < 0 then (some false) else (if x1 ≥ 63 then (some true) else (if 0 ≤ x1 then (some (decide (x0 < (shl .i64 1 x1)))) else (none)))))
def leb_Fits.f (k : Nat) (a0 : Int) (a1 : Int) (a2 : Bool) : Option (Bool) := if a1 < 1 then (leb_Fits.j0 k a0 a1 a2 true) else (leb_Fits.j0 k a0 a1 a2 (decide (a1 > 64)))
theorem leb_Fits.mono_l : ∀ k, (∀ y0 y1 y2 y3, LeO (leb_Fits.j0 k y0 y1 y2 y3) (leb_Fits.j0 (k + 1) y0 y1 y2 y3))
  | 0 => fun _ _ _ _ r h => by simp [leb_Fits.j0] at h
  | k + 1 => by
    have ih0 := leb_Fits.mono_l k
    · intro y0 y1 y2 y3
      unfold leb_Fits.j0
      repeat' first
      | (with_reducible exact ih0 _ _ _ _)
      | (with_reducible exact LeO.refl _)
      | (with_reducible exact LeO.none _)
      | (with_reducible refine LeO.ite ?_ ?_)
      | (with_reducible refine LeO.bind ?_ (fun _ => ?_))
      | exact ih0 _ _ _ _
      | exact LeO.none _
      | refine LeO.ite ?_ ?_
      | refine LeO.bind ?_ (fun _ => ?_)
theorem leb_Fits.mono : ∀ a0 a1 a2 k, LeO (leb_Fits.f k a0 a1 a2) (leb_Fits.f (k + 1) a0 a1 a2) := by
 intro a0 a1 a2 k
 have ih0 := leb_Fits.mono_l k
 unfold leb_Fits.f
 repeat' first
     | (with_reducible exact ih0 _ _ _ _)
     | (with_reducible exact LeO.refl _)
     | (with_reducible exact LeO.none _)
     | (with_reducible refine LeO.ite ?_ ?_)
     | (with_reducible refine LeO.bind ?_ (fun _ => ?_))
     | exact ih0 _ _ _ _
     | exact LeO.none _
     | refine LeO.ite ?_ ?_
     | refine LeO.bind ?_ (fun _ => ?_)
set_option maxHeartbeats 8000000 in
theorem leb_Fits.calls (k : Nat) (a0 : Int) (a1 : Int) (a2 : Bool) (r : Bool) (w : World) (h : leb_Fits.f k a0 a1 a2 = some r) :
    Calls Try.prog 39 #[.int .i64 a0, .int .i64 a1, .bool a2] w fun e w' => e = .returned (.bool r) ∧ Drawn0 w w' := by
 have H : (if a1 < 1 then (leb_Fits.j0 k a0 a1 a2 true) else (leb_Fits.j0 k a0 a1 a2 (decide (a1 > 64)))) = some r := h
 clear h
 have HC4 := am H
 clear H
 go_enter Try.func39, Try.ntmps39
 go_upto_region 1 with (fail)
 go_cut [7] (fun v7 wc => ∃ (kq : Nat) (x7_3 : Bool), v7 = .bool x7_3 ∧ Aside0 (leb_Fits.j0 kq a0 a1 a2 x7_3 = some r) ∧ Aside0 (kq ≤ k) ∧ Drawn0 w wc)
 case first =>
  have H := HC4.out
  clear HC4
  by_cases c5 : a1 < 1
  ·
   rw [if_pos c5] at H
   have c5b0 : decide (a1 < 1) = true := decide_eq_true c5
   clear c5
   (first | rw [c5b0] | (simp only [i64_w, i32_w]; rw [c5b0]) | skip)
   have H' := am H
   clear H
   go_wp2
   go_meet
   case rel => exact ⟨_, (true), (by first | rfl | (simp; done) | (simp [*]; done)), H', ⟨by first | omega | exact Nat.le_refl _⟩, by repeat (first | exact Drawn0.refl _ | apply Drawn0.step)⟩
  rw [if_neg c5] at H
  have c5b0 : decide (a1 < 1) = false := decide_eq_false c5
  clear c5
  (first | rw [c5b0] | (simp only [i64_w, i32_w]; rw [c5b0]) | skip)
  have H' := am H
  clear H
  go_wp2
  go_meet
  case rel => exact ⟨_, (decide (a1 > 64)), (by first | rfl | (simp; done) | (simp [*]; done)), H', ⟨by first | omega | exact Nat.le_refl _⟩, by repeat (first | exact Drawn0.refl _ | apply Drawn0.step)⟩
 case rest =>
  clear HC4
  try clear p2
  try clear c3
  try clear c5
  try clear c5b0
  obtain ⟨kq, x7_3, rfl, HA, HJ3, ⟨mc3, rfl⟩⟩ := hcut
  cases kq with
  | zero => exact absurd HA.out (by simp [leb_Fits.j0])
  | succ kj3 =>
   have H := HA.out
   clear HA
   simp only [leb_Fits.j0] at H
   by_cases c6 : x7_3 = true
   ·
    subst c6
    replace H : (some false) = some r := by rw [if_pos rfl] at H; exact H
    obtain rfl := Option.some.inj H
    go_wp2
    go_ret
    exact ⟨by first | rfl | (simp; done) | (simp [*]; done), by repeat (first | exact Drawn0.refl _ | apply Drawn0.step)⟩
   replace c6 := Bool.eq_false_iff.mpr c6
   subst c6
   replace H : (if a2 = true then (if a1 = 64 then (some true) else (if 0 ≤ (wrap64 (a1 - 1)) then (if a0 ≥ (shl .i64 (-1) (wrap64 (a1 - 1))) then (some (decide (a0 < (shl .i64 1 (wrap64 (a1 - 1)))))) else (some false)) else (none))) else (if a0 < 0 then (some false) else (if a1 ≥ 63 then (some true) else (if 0 ≤ a1 then (some (decide (a0 < (shl .i64 1 a1)))) else (none))))) = some r := by rw [if_neg (show ¬ (false = true) by decide)] at H; exact H
   by_cases c7 : a2 = true
   rotate_left
   ·
    replace c7 := Bool.eq_false_iff.mpr c7
    subst c7
    replace H : (if a0 < 0 then (some false) else (if a1 ≥ 63 then (some true) else (if 0 ≤ a1 then (some (decide (a0 < (shl .i64 1 a1)))) else (none)))) = some r := by rw [if_neg (show ¬ (false = true) by decide)] at H; exact H
    by_cases c15 : a0 < 0
    ·
     rw [if_pos c15] at H
     have c15b0 : decide (a0 < 0) = true := decide_eq_true c15
     clear c15
     obtain rfl := Option.some.inj H
     go_wp2
     go_ret
     exact ⟨by first | rfl | (simp; done) | (simp [*]; done), by repeat (first | exact Drawn0.refl _ | apply Drawn0.step)⟩
    rw [if_neg c15] at H
    have c15b0 : decide (a0 < 0) = false := decide_eq_false c15
    clear c15
    by_cases c16 : a1 ≥ 63
    ·
     rw [if_pos c16] at H
     have c16b0 : decide (63 ≤ a1) = true := decide_eq_true c16
     clear c16
     obtain rfl := Option.some.inj H
     go_wp2
     go_ret
     exact ⟨by first | rfl | (simp; done) | (simp [*]; done), by repeat (first | exact Drawn0.refl _ | apply Drawn0.step)⟩
    rw [if_neg c16] at H
    have c16b0 : decide (63 ≤ a1) = false := decide_eq_false c16
    clear c16
    by_cases c17 : 0 ≤ a1
    rotate_left
    ·
     rw [if_neg c17] at H
     exact absurd H (by simp)
    rw [if_pos c17] at H
    have c17b0 := eq_true c17
    have c17b1 : decide (0 ≤ a1) = true := decide_eq_true c17
    clear c17
    obtain ⟨ji18, hji18⟩ : ∃ j_ : Int, (shl .i64 1 a1) = j_ := ⟨_, rfl⟩
    replace H : (some (decide (a0 < (ji18)))) = some r := by first | (rw [hji18] at H; exact H) | (simp only [hji18] at H ⊢; exact H)
    have hji18_ : (IntKind.i64.wrap (1 * 2 ^ min a1.toNat 64)) = ji18 := hji18
    have hji18z : a1 ≤ 64 → (IntKind.i64.wrap (1 * 2 ^ a1.toNat)) = ji18 := shl_small hji18
    have hji18u : (IntKind.i64.wrap (2 ^ min a1.toNat 64)) = ji18 := by have h_ := hji18_; rw [Int.one_mul] at h_; exact h_
    have hji18v : a1 ≤ 64 → (IntKind.i64.wrap (2 ^ a1.toNat)) = ji18 := fun hle_ => by have h_ := hji18z hle_; rw [Int.one_mul] at h_; exact h_
    have hji18y : (wrap64 (1 * 2 ^ min a1.toNat 64)) = ji18 := (i64_w _).symm.trans hji18_
    have hji18x : a1 ≤ 64 → (wrap64 (1 * 2 ^ a1.toNat)) = ji18 := fun h_ => (i64_w _).symm.trans (hji18z h_)
    obtain rfl := Option.some.inj H
    go_wp2
    go_ret
    exact ⟨by first | rfl | (simp; done) | (simp only [← hji18] <;> (first | rfl | simp)) | (simp [*]; done), by repeat (first | exact Drawn0.refl _ | apply Drawn0.step)⟩
   subst c7
   replace H : (if a1 = 64 then (some true) else (if 0 ≤ (wrap64 (a1 - 1)) then (if a0 ≥ (shl .i64 (-1) (wrap64 (a1 - 1))) then (some (decide (a0 < (shl .i64 1 (wrap64 (a1 - 1)))))) else (some false)) else (none))) = some r := by rw [if_pos rfl] at H; exact H
   by_cases c8 : a1 = 64
   ·
    rw [if_pos c8] at H
    have c8b0 : (a1 == 64) = true := beq_iff_eq.mpr c8
    have c8b1 : (a1 != 64) = false := bne_eq_false_iff_eq.mpr c8
    clear c8
    obtain rfl := Option.some.inj H
    go_wp2
    go_ret
    exact ⟨by first | rfl | (simp; done) | (simp [*]; done), by repeat (first | exact Drawn0.refl _ | apply Drawn0.step)⟩
   rw [if_neg c8] at H
   have c8b0 : (a1 == 64) = false := beq_eq_false_iff_ne.mpr c8
   have c8b1 : (a1 != 64) = true := bne_iff_ne.mpr c8
   obtain ⟨ji9, hji9⟩ : ∃ j_ : Int, (wrap64 (a1 - 1)) = j_ := ⟨_, rfl⟩
   replace H : (if 0 ≤ (ji9) then (if a0 ≥ (shl .i64 (-1) (ji9)) then (some (decide (a0 < (shl .i64 1 (ji9))))) else (some false)) else (none)) = some r := by first | (rw [hji9] at H; exact H) | (simp only [hji9] at H ⊢; exact H)
   have hji9w : (IntKind.i64.wrap (a1 - 1)) = ji9 := (i64_w _).trans hji9
   by_cases c10 : 0 ≤ (ji9)
   rotate_left
   ·
    rw [if_neg c10] at H
    exact absurd H (by simp)
   rw [if_pos c10] at H
   have c10b0 := eq_true c10
   have c10b1 : decide (0 ≤ (ji9)) = true := decide_eq_true c10
   clear c10
   obtain ⟨ji11, hji11⟩ : ∃ j_ : Int, (shl .i64 (-1) (ji9)) = j_ := ⟨_, rfl⟩
   replace H : (if a0 ≥ (ji11) then (some (decide (a0 < (shl .i64 1 (ji9))))) else (some false)) = some r := by first | (rw [hji11] at H; exact H) | (simp only [hji11] at H ⊢; exact H)
   have hji11_ : (IntKind.i64.wrap ((-1) * 2 ^ min (ji9).toNat 64)) = ji11 := hji11
   have hji11z : (ji9) ≤ 64 → (IntKind.i64.wrap ((-1) * 2 ^ (ji9).toNat)) = ji11 := shl_small hji11
   (try (have hji11n : (IntKind.i64.wrap (-2 ^ min (ji9).toNat 64)) = ji11 := (congrArg IntKind.i64.wrap (Int.neg_one_mul _).symm).trans hji11_))
   (try (have hji11m : (ji9) ≤ 64 → (IntKind.i64.wrap (-2 ^ (ji9).toNat)) = ji11 := fun hle_ => (congrArg IntKind.i64.wrap (Int.neg_one_mul _).symm).trans (hji11z hle_)))
   (try (have hji11ny : (wrap64 (-2 ^ min (ji9).toNat 64)) = ji11 := (i64_w _).symm.trans hji11n))
   (try (have hji11my : (ji9) ≤ 64 → (wrap64 (-2 ^ (ji9).toNat)) = ji11 := fun h_ => (i64_w _).symm.trans (hji11m h_)))
   have hji11y : (wrap64 ((-1) * 2 ^ min (ji9).toNat 64)) = ji11 := (i64_w _).symm.trans hji11_
   have hji11x : (ji9) ≤ 64 → (wrap64 ((-1) * 2 ^ (ji9).toNat)) = ji11 := fun h_ => (i64_w _).symm.trans (hji11z h_)
   by_cases c12 : a0 ≥ (ji11)
   rotate_left
   ·
    rw [if_neg c12] at H
    have c12b0 : decide ((ji11) ≤ a0) = false := decide_eq_false c12
    clear c12
    obtain rfl := Option.some.inj H
    go_wp2
    go_ret
    exact ⟨by first | rfl | (simp; done) | (simp only [← hji9, ← hji11] <;> (first | rfl | simp)) | (simp [*]; done), by repeat (first | exact Drawn0.refl _ | apply Drawn0.step)⟩
   rw [if_pos c12] at H
   have c12b0 : decide ((ji11) ≤ a0) = true := decide_eq_true c12
   clear c12
   have c13b0 := eq_true (od : 0 ≤ (ji9))
   obtain ⟨ji14, hji14⟩ : ∃ j_ : Int, (shl .i64 1 (ji9)) = j_ := ⟨_, rfl⟩
   replace H : (some (decide (a0 < (ji14)))) = some r := by first | (rw [hji14] at H; exact H) | (simp only [hji14] at H ⊢; exact H)
   have hji14_ : (IntKind.i64.wrap (1 * 2 ^ min (ji9).toNat 64)) = ji14 := hji14
   have hji14z : (ji9) ≤ 64 → (IntKind.i64.wrap (1 * 2 ^ (ji9).toNat)) = ji14 := shl_small hji14
   have hji14u : (IntKind.i64.wrap (2 ^ min (ji9).toNat 64)) = ji14 := by have h_ := hji14_; rw [Int.one_mul] at h_; exact h_
   have hji14v : (ji9) ≤ 64 → (IntKind.i64.wrap (2 ^ (ji9).toNat)) = ji14 := fun hle_ => by have h_ := hji14z hle_; rw [Int.one_mul] at h_; exact h_
   have hji14y : (wrap64 (1 * 2 ^ min (ji9).toNat 64)) = ji14 := (i64_w _).symm.trans hji14_
   have hji14x : (ji9) ≤ 64 → (wrap64 (1 * 2 ^ (ji9).toNat)) = ji14 := fun h_ => (i64_w _).symm.trans (hji14z h_)
   obtain rfl := Option.some.inj H
   go_wp2
   go_ret
   exact ⟨by first | rfl | (simp; done) | (simp only [← hji9, ← hji11, ← hji14] <;> (first | rfl | simp)) | (simp [*]; done), by repeat (first | exact Drawn0.refl _ | apply Drawn0.step)⟩
def leb_sized.f (a0 : Int) : Option (Bool) := if a0 = 1 then (some true) else (if a0 = 2 then (some true) else (if a0 = 4 then (some true) else (some (a0 == 8))))
set_option maxHeartbeats 8000000 in
theorem leb_sized.calls (a0 : Int) (r : Bool) (w : World) (h : leb_sized.f a0 = some r) :
    Calls Try.prog 66 #[.int .i64 a0] w fun e w' => e = .returned (.bool r) ∧ Drawn0 w w' := by
 have H : (if a0 = 1 then (some true) else (if a0 = 2 then (some true) else (if a0 = 4 then (some true) else (some (a0 == 8))))) = some r := h
 clear h
 by_cases c2 : a0 = 1
 ·
  rw [if_pos c2] at H
  have c2b0 : (a0 == 1) = true := beq_iff_eq.mpr c2
  have c2b1 : (a0 != 1) = false := bne_eq_false_iff_eq.mpr c2
  clear c2
  obtain rfl := Option.some.inj H
  go_enter Try.func66, Try.ntmps66
  go_wp2
  go_ret
  exact ⟨by first | rfl | (simp; done) | (simp [*]; done), by repeat (first | exact Drawn0.refl _ | apply Drawn0.step)⟩
 rw [if_neg c2] at H
 have c2b0 : (a0 == 1) = false := beq_eq_false_iff_ne.mpr c2
 have c2b1 : (a0 != 1) = true := bne_iff_ne.mpr c2
 by_cases c3 : a0 = 2
 ·
  rw [if_pos c3] at H
  have c3b0 : (a0 == 2) = true := beq_iff_eq.mpr c3
  have c3b1 : (a0 != 2) = false := bne_eq_false_iff_eq.mpr c3
  clear c3
  obtain rfl := Option.some.inj H
  go_enter Try.func66, Try.ntmps66
  go_wp2
  go_ret
  exact ⟨by first | rfl | (simp; done) | (simp [*]; done), by repeat (first | exact Drawn0.refl _ | apply Drawn0.step)⟩
 rw [if_neg c3] at H
 have c3b0 : (a0 == 2) = false := beq_eq_false_iff_ne.mpr c3
 have c3b1 : (a0 != 2) = true := bne_iff_ne.mpr c3
 by_cases c4 : a0 = 4
 ·
  rw [if_pos c4] at H
  have c4b0 : (a0 == 4) = true := beq_iff_eq.mpr c4
  have c4b1 : (a0 != 4) = false := bne_eq_false_iff_eq.mpr c4
  clear c4
  obtain rfl := Option.some.inj H
  go_enter Try.func66, Try.ntmps66
  go_wp2
  go_ret
  exact ⟨by first | rfl | (simp; done) | (simp [*]; done), by repeat (first | exact Drawn0.refl _ | apply Drawn0.step)⟩
 rw [if_neg c4] at H
 have c4b0 : (a0 == 4) = false := beq_eq_false_iff_ne.mpr c4
 have c4b1 : (a0 != 4) = true := bne_iff_ne.mpr c4
 obtain rfl := Option.some.inj H
 go_enter Try.func66, Try.ntmps66
 go_wp2
 go_ret
 exact ⟨by first | rfl | (simp; done) | (simp [*]; done), by repeat (first | exact Drawn0.refl _ | apply Drawn0.step)⟩
def leb_low_uint64.l0 : Nat → Int → List Int → Int → Int → Option (List Int)
  | 0, _, _, _, _ => none
  | k + 1, x0, x5, x7, x8 => if x8 < x7 then (if 0 ≤ (wrap64 (8 * x8)) then (if x5.length < 140737488355328 then (leb_low_uint64.l0 k x0 (x5 ++ [(shr .u64 x0 (wrap64 (8 * x8))) % 256]) x7 (wrap64 (x8 + 1))) else (none)) else (none)) else (some x5)
def leb_low_uint64.f (k : Nat) (a0 : Int) (a1 : Int) : Option (List Int) := leb_low_uint64.l0 k a0 ([] : List Int) a1 0
theorem leb_low_uint64.mono_l : ∀ k, (∀ y0 y1 y2 y3, LeO (leb_low_uint64.l0 k y0 y1 y2 y3) (leb_low_uint64.l0 (k + 1) y0 y1 y2 y3))
  | 0 => fun _ _ _ _ r h => by simp [leb_low_uint64.l0] at h
  | k + 1 => by
    have ih0 := leb_low_uint64.mono_l k
    · intro y0 y1 y2 y3
      unfold leb_low_uint64.l0
      repeat' first
      | (with_reducible exact ih0 _ _ _ _)
      | (with_reducible exact LeO.refl _)
      | (with_reducible exact LeO.none _)
      | (with_reducible refine LeO.ite ?_ ?_)
      | (with_reducible refine LeO.bind ?_ (fun _ => ?_))
      | exact ih0 _ _ _ _
      | exact LeO.none _
      | refine LeO.ite ?_ ?_
      | refine LeO.bind ?_ (fun _ => ?_)
theorem leb_low_uint64.mono : ∀ a0 a1 k, LeO (leb_low_uint64.f k a0 a1) (leb_low_uint64.f (k + 1) a0 a1) := by
 intro a0 a1 k
 have ih0 := leb_low_uint64.mono_l k
 unfold leb_low_uint64.f
 repeat' first
     | (with_reducible exact ih0 _ _ _ _)
     | (with_reducible exact LeO.refl _)
     | (with_reducible exact LeO.none _)
     | (with_reducible refine LeO.ite ?_ ?_)
     | (with_reducible refine LeO.bind ?_ (fun _ => ?_))
     | exact ih0 _ _ _ _
     | exact LeO.none _
     | refine LeO.ite ?_ ?_
     | refine LeO.bind ?_ (fun _ => ?_)
set_option maxHeartbeats 8000000 in
theorem leb_low_uint64.calls (k : Nat) (a0 : Int) (a1 : Int) (r : List Int) (w : World) (h : leb_low_uint64.f k a0 a1 = some r) :
    Calls Try.prog 67 #[.int .u64 a0, .int .i64 a1] w fun e w' => ∃ v0_ : Value, e = .returned (v0_) ∧ Kd.R (Kd.int .u8) 5 w' w.heap.size (fun _ => True) v0_ r ∧ Below w.heap.size w w' := by
 have HB := am (Below.refl w.heap.size w)
 have H : (leb_low_uint64.l0 k a0 ([] : List Int) a1 0) = some r := h
 clear h
 have H' := am H
 clear H
 go_enter Try.func67, Try.ntmps67
 go_wp2
 go_loopg [5, 8] k (fun kq v5 v8 w' => ∃ (x5_1 : List Int) (x8_1 : Int), v8 = .int .i64 x8_1 ∧ Aside0 (leb_low_uint64.l0 kq a0 x5_1 a1 x8_1 = some r) ∧ Aside0 (kq ≤ k) ∧ Aside0 (Kd.R (Kd.int .u8) 5 w' w.heap.size (fun _ => True) v5 x5_1) ∧ Aside0 (Below w.heap.size w w'))
 case atStart => exact ⟨(([] : List Int)), (0), (by first | rfl | (simp; done) | (simp [*]; done)), H', ⟨Nat.le_refl _⟩, ⟨by first | exact Kd.R_nil _ _ _ _ _ | exact Kd.N_nil _ _ _ _ _⟩, ⟨by exact bl_g HB.out⟩⟩
 case round =>
  clear H'
  try clear p2
  obtain ⟨x5_1, x8_1, rfl, HA, HK1, HO_5, HB⟩ := hrel
  cases gk with
  | zero => exact absurd HA.out (by simp [leb_low_uint64.l0])
  | succ k1 =>
   have H := HA.out
   clear HA
   simp only [leb_low_uint64.l0] at H
   by_cases c3 : x8_1 < a1
   rotate_left
   ·
    rw [if_neg c3] at H
    have c3b0 : decide (x8_1 < a1) = false := decide_eq_false c3
    clear c3
    obtain rfl := Option.some.inj H
    go_wp2
    go_ret
    exact ⟨_, rfl, by (with_reducible repeat (first | apply Kd.R_alloc | apply Kd.R_drewN | apply Kd.R_drew)); exact HO_5.out, by exact bl_g HB.out⟩
   rw [if_pos c3] at H
   have c3b0 : decide (x8_1 < a1) = true := decide_eq_true c3
   clear c3
   obtain ⟨ji4, hji4⟩ : ∃ j_ : Int, (wrap64 (8 * x8_1)) = j_ := ⟨_, rfl⟩
   replace H : (if 0 ≤ (ji4) then (if x5_1.length < 140737488355328 then (leb_low_uint64.l0 k1 a0 (x5_1 ++ [(shr .u64 a0 (ji4)) % 256]) a1 (wrap64 (x8_1 + 1))) else (none)) else (none)) = some r := by first | (rw [hji4] at H; exact H) | (simp only [hji4] at H ⊢; exact H)
   have hji4w : (IntKind.i64.wrap (8 * x8_1)) = ji4 := (i64_w _).trans hji4
   by_cases c5 : 0 ≤ (ji4)
   rotate_left
   ·
    rw [if_neg c5] at H
    exact absurd H (by simp)
   rw [if_pos c5] at H
   have c5b0 := eq_true c5
   have c5b1 : decide (0 ≤ (ji4)) = true := decide_eq_true c5
   clear c5
   obtain ⟨ji6, hji6⟩ : ∃ j_ : Int, (shr .u64 a0 (ji4)) = j_ := ⟨_, rfl⟩
   replace H : (if x5_1.length < 140737488355328 then (leb_low_uint64.l0 k1 a0 (x5_1 ++ [(ji6) % 256]) a1 (wrap64 (x8_1 + 1))) else (none)) = some r := by first | (rw [hji6] at H; exact H) | (simp only [hji6] at H ⊢; exact H)
   have hji6_ : (a0 / 2 ^ min (ji4).toNat 64) = ji6 := hji6
   have hji6z : (ji4) ≤ 64 → (a0 / 2 ^ (ji4).toNat) = ji6 := shr_small hji6
   by_cases c7 : x5_1.length < 140737488355328
   rotate_left
   ·
    rw [if_neg c7] at H
    exact absurd H (by simp)
   rw [if_pos c7] at H
   have LMc7 := am c7
   clear c7
   obtain ⟨y101, hy101⟩ : ∃ y_ : List Int, y_ = (x5_1 ++ [(ji6) % 256]) := ⟨_, rfl⟩
   replace H : (leb_low_uint64.l0 k1 a0 y101 a1 (wrap64 (x8_1 + 1))) = some r := by first | (rw [hy101]; with_reducible exact H) | (have H2_ := (Option.bind_some _ _).symm.trans H; rw [hy101]; with_reducible exact H2_)
   have Ny101 := am hy101
   clear hy101
   have H' := am H
   clear H
   go_wp2_with (first | ((with_reducible refine gate_builtin (b := .append) (xs := #[.tmp 11, .tmp 17]) rfl ?_); at_builtin; refine Kd.R_append (Kd.int .u8) (w0 := w) w.heap.size rfl (.tmp 11) (.tmp 17) 28 5 (.int .u8 0) 1 rfl Try.underlying28 info5 rfl (by decide) (by omega) u5 x5_1 ((ji6) % 256) [.int .u8 ((ji6) % 256)] (fun _ => True) (fun _ => False) rfl rfl ?aP (fun _ hk => hk.elim) ?aF ?aO ?aB ?aS ?aL ?_; (case aP => exact rfl); (case aB => exact (by exact bl_o HB.out)); (case aF => exact (fun _ _ => trivial)); (case aO => exact (Kd.R_o HO_5.out)); (case aS => exact (below_size (by exact bl_o HB.out))); (case aL => have := LMc7.out; omega); intro v102 w8 ho hb hg hat; rw [← Ny101.out] at ho; refine mv2 (am (hb)) (am (ho)) ?_; clear HB HO_5; intro HB HO103; clear ho hb hg hat))
   go_roundg k1
   case measure => have := HK1.out; omega
   case rel => exact ⟨(y101), (wrap64 (x8_1 + 1)), (by first | rfl | (simp; done) | (simp [*]; done)), H', ⟨by have := HK1.out; omega⟩, ⟨by (with_reducible repeat (first | apply Kd.R_alloc | apply Kd.R_drewN | apply Kd.R_drew)); exact HO103.out⟩, ⟨by exact bl_g HB.out⟩⟩
def leb_Put.f (k : Nat) (a0 : Int) (a1 : Int) : Option (List Int × Int) := (leb_sized.f a1).bind fun t101 => (if t101 = true then (if a1 < 8 then (if 0 ≤ (wrap64 ((wrap64 (8 * a1)) - 1)) then (if a0 < (shl .i64 (-1) (wrap64 ((wrap64 (8 * a1)) - 1))) then (some (([] : List Int), 11)) else (if 0 ≤ (wrap64 (8 * a1)) then (if a0 ≥ (shl .i64 1 (wrap64 (8 * a1))) then (some (([] : List Int), 11)) else ((leb_low_uint64.f k (IntKind.u64.wrap (a0)) a1).bind fun t102 => (some (t102, 0)))) else (none))) else (none)) else ((leb_low_uint64.f k (IntKind.u64.wrap (a0)) a1).bind fun t105 => (some (t105, 0)))) else (some (([] : List Int), 1)))
theorem leb_Put.mono : ∀ a0 a1 k, LeO (leb_Put.f k a0 a1) (leb_Put.f (k + 1) a0 a1) := by
 intro a0 a1 k
 unfold leb_Put.f
 repeat' first
     | (with_reducible exact leb_low_uint64.mono _ _ _)
     | (with_reducible exact LeO.refl _)
     | (with_reducible exact LeO.none _)
     | (with_reducible refine LeO.ite ?_ ?_)
     | (with_reducible refine LeO.bind ?_ (fun _ => ?_))
     | exact leb_low_uint64.mono _ _ _
     | exact LeO.none _
     | refine LeO.ite ?_ ?_
     | refine LeO.bind ?_ (fun _ => ?_)
set_option maxHeartbeats 8000000 in
theorem leb_Put.calls (k : Nat) (a0 : Int) (a1 : Int) (r1 : List Int) (r2 : Int) (w : World) (h : leb_Put.f k a0 a1 = some (r1, r2)) :
    Calls Try.prog 40 #[.int .i64 a0, .int .i64 a1] w fun e w' => ∃ v0_ : Value, e = .returned (.tuple #[v0_, .int .i64 r2]) ∧ Kd.R (Kd.int .u8) 5 w' w.heap.size (fun _ => True) v0_ r1 ∧ Below w.heap.size w w' := by
 have HB := am (Below.refl w.heap.size w)
 have H : ((leb_sized.f a1).bind fun t101 => (if t101 = true then (if a1 < 8 then (if 0 ≤ (wrap64 ((wrap64 (8 * a1)) - 1)) then (if a0 < (shl .i64 (-1) (wrap64 ((wrap64 (8 * a1)) - 1))) then (some (([] : List Int), 11)) else (if 0 ≤ (wrap64 (8 * a1)) then (if a0 ≥ (shl .i64 1 (wrap64 (8 * a1))) then (some (([] : List Int), 11)) else ((leb_low_uint64.f k (IntKind.u64.wrap (a0)) a1).bind fun t102 => (some (t102, 0)))) else (none))) else (none)) else ((leb_low_uint64.f k (IntKind.u64.wrap (a0)) a1).bind fun t105 => (some (t105, 0)))) else (some (([] : List Int), 1)))) = some (r1, r2) := h
 clear h
 replace H := Option.bind_eq_some_iff.mp H
 obtain ⟨t101, A30, H⟩ := H
 replace H : (if t101 = true then (if a1 < 8 then (if 0 ≤ (wrap64 ((wrap64 (8 * a1)) - 1)) then (if a0 < (shl .i64 (-1) (wrap64 ((wrap64 (8 * a1)) - 1))) then (some (([] : List Int), 11)) else (if 0 ≤ (wrap64 (8 * a1)) then (if a0 ≥ (shl .i64 1 (wrap64 (8 * a1))) then (some (([] : List Int), 11)) else ((leb_low_uint64.f k (IntKind.u64.wrap (a0)) a1).bind fun t102 => (some (t102, 0)))) else (none))) else (none)) else ((leb_low_uint64.f k (IntKind.u64.wrap (a0)) a1).bind fun t105 => (some (t105, 0)))) else (some (([] : List Int), 1))) = some (r1, r2) := H
 have A3 := am A30
 clear A30
 by_cases c4 : t101 = true
 rotate_left
 ·
  replace c4 := Bool.eq_false_iff.mpr c4
  subst c4
  replace H : (some (([] : List Int), 1)) = some (r1, r2) := by rw [if_neg (show ¬ (false = true) by decide)] at H; exact H
  simp only [Option.some.injEq, Prod.mk.injEq] at H
  obtain ⟨rfl, rfl⟩ := H
  go_enter Try.func40, Try.ntmps40
  go_wp2_with (first | ((with_reducible refine gate_callee (f := 66) rfl ?_); refine goesL_ (some 8) rfl rfl Try.func66 (by kernel_rfl) rfl #[.int .i64 a1] rfl (by simp only [ml]; try rfl) ?_; (with_reducible refine (leb_sized.calls a1 false _ A3.out).mono ?_); rintro e w' ⟨rfl, ⟨nd, rfl⟩⟩; refine ⟨_, rfl, ?_⟩))
  go_ret2
  exact ⟨_, rfl, by first | exact Kd.R_nil _ _ _ _ _ | exact Kd.N_nil _ _ _ _ _, by exact bl_g HB.out⟩
 subst c4
 replace H : (if a1 < 8 then (if 0 ≤ (wrap64 ((wrap64 (8 * a1)) - 1)) then (if a0 < (shl .i64 (-1) (wrap64 ((wrap64 (8 * a1)) - 1))) then (some (([] : List Int), 11)) else (if 0 ≤ (wrap64 (8 * a1)) then (if a0 ≥ (shl .i64 1 (wrap64 (8 * a1))) then (some (([] : List Int), 11)) else ((leb_low_uint64.f k (IntKind.u64.wrap (a0)) a1).bind fun t102 => (some (t102, 0)))) else (none))) else (none)) else ((leb_low_uint64.f k (IntKind.u64.wrap (a0)) a1).bind fun t105 => (some (t105, 0)))) = some (r1, r2) := by rw [if_pos rfl] at H; exact H
 by_cases c5 : a1 < 8
 rotate_left
 ·
  rw [if_neg c5] at H
  have c5b0 : decide (a1 < 8) = false := decide_eq_false c5
  clear c5
  replace H := Option.bind_eq_some_iff.mp H
  obtain ⟨t105, A160, H⟩ := H
  replace H : (some (t105, 0)) = some (r1, r2) := H
  have A16 := am A160
  clear A160
  simp only [Option.some.injEq, Prod.mk.injEq] at H
  obtain ⟨rfl, rfl⟩ := H
  go_enter Try.func40, Try.ntmps40
  go_wp2_with (first | ((with_reducible refine gate_callee (f := 66) rfl ?_); refine goesL_ (some 8) rfl rfl Try.func66 (by kernel_rfl) rfl #[.int .i64 a1] rfl (by simp only [ml]; try rfl) ?_; (with_reducible refine (leb_sized.calls a1 true _ A3.out).mono ?_); rintro e w' ⟨rfl, ⟨nd, rfl⟩⟩; refine ⟨_, rfl, ?_⟩) | ((with_reducible refine gate_callee (f := 67) rfl ?_); refine goesL_ (some 31) rfl rfl Try.func67 (by kernel_rfl) rfl #[.int .u64 (IntKind.u64.wrap (a0)), .int .i64 a1] rfl (by simp only [ml]; try rfl) ?_; (with_reducible refine (leb_low_uint64.calls k (IntKind.u64.wrap (a0)) a1 t105 _ A16.out).mono ?_); rintro e w17 ⟨v106, rfl, ho0, hb⟩; refine ⟨_, rfl, ?_⟩; refine mv2 (am (Kd.R_lower ho0 (below_size (by exact bl_o HB.out)))) (am (below_step (by exact bl_o HB.out) hb)) ?_; clear HB; intro HO107 HB))
  go_ret2
  exact ⟨_, rfl, by (with_reducible repeat (first | apply Kd.R_alloc | apply Kd.R_drewN | apply Kd.R_drew)); exact HO107.out, by exact bl_g HB.out⟩
 rw [if_pos c5] at H
 have c5b0 : decide (a1 < 8) = true := decide_eq_true c5
 clear c5
 obtain ⟨ji6, hji6⟩ : ∃ j_ : Int, (wrap64 ((wrap64 (8 * a1)) - 1)) = j_ := ⟨_, rfl⟩
 replace H : (if 0 ≤ (ji6) then (if a0 < (shl .i64 (-1) (ji6)) then (some (([] : List Int), 11)) else (if 0 ≤ (wrap64 (8 * a1)) then (if a0 ≥ (shl .i64 1 (wrap64 (8 * a1))) then (some (([] : List Int), 11)) else ((leb_low_uint64.f k (IntKind.u64.wrap (a0)) a1).bind fun t102 => (some (t102, 0)))) else (none))) else (none)) = some (r1, r2) := by first | (rw [hji6] at H; exact H) | (simp only [hji6] at H ⊢; exact H)
 (try rw [hji6] at A3)
 have hji6w : (IntKind.i64.wrap ((wrap64 (8 * a1)) - 1)) = ji6 := (i64_w _).trans hji6
 by_cases c7 : 0 ≤ (ji6)
 rotate_left
 ·
  rw [if_neg c7] at H
  exact absurd H (by simp)
 rw [if_pos c7] at H
 have c7b0 := eq_true c7
 have c7b1 : decide (0 ≤ (ji6)) = true := decide_eq_true c7
 clear c7
 obtain ⟨ji8, hji8⟩ : ∃ j_ : Int, (shl .i64 (-1) (ji6)) = j_ := ⟨_, rfl⟩
 replace H : (if a0 < (ji8) then (some (([] : List Int), 11)) else (if 0 ≤ (wrap64 (8 * a1)) then (if a0 ≥ (shl .i64 1 (wrap64 (8 * a1))) then (some (([] : List Int), 11)) else ((leb_low_uint64.f k (IntKind.u64.wrap (a0)) a1).bind fun t102 => (some (t102, 0)))) else (none))) = some (r1, r2) := by first | (rw [hji8] at H; exact H) | (simp only [hji8] at H ⊢; exact H)
 (try rw [hji8] at A3)
 have hji8_ : (IntKind.i64.wrap ((-1) * 2 ^ min (ji6).toNat 64)) = ji8 := hji8
 have hji8z : (ji6) ≤ 64 → (IntKind.i64.wrap ((-1) * 2 ^ (ji6).toNat)) = ji8 := shl_small hji8
 (try (have hji8n : (IntKind.i64.wrap (-2 ^ min (ji6).toNat 64)) = ji8 := (congrArg IntKind.i64.wrap (Int.neg_one_mul _).symm).trans hji8_))
 (try (have hji8m : (ji6) ≤ 64 → (IntKind.i64.wrap (-2 ^ (ji6).toNat)) = ji8 := fun hle_ => (congrArg IntKind.i64.wrap (Int.neg_one_mul _).symm).trans (hji8z hle_)))
 (try (have hji8ny : (wrap64 (-2 ^ min (ji6).toNat 64)) = ji8 := (i64_w _).symm.trans hji8n))
 (try (have hji8my : (ji6) ≤ 64 → (wrap64 (-2 ^ (ji6).toNat)) = ji8 := fun h_ => (i64_w _).symm.trans (hji8m h_)))
 have hji8y : (wrap64 ((-1) * 2 ^ min (ji6).toNat 64)) = ji8 := (i64_w _).symm.trans hji8_
 have hji8x : (ji6) ≤ 64 → (wrap64 ((-1) * 2 ^ (ji6).toNat)) = ji8 := fun h_ => (i64_w _).symm.trans (hji8z h_)
 by_cases c9 : a0 < (ji8)
 ·
  rw [if_pos c9] at H
  have c9b0 : decide (a0 < (ji8)) = true := decide_eq_true c9
  clear c9
  simp only [Option.some.injEq, Prod.mk.injEq] at H
  obtain ⟨rfl, rfl⟩ := H
  go_enter Try.func40, Try.ntmps40
  go_wp2_with (first | ((with_reducible refine gate_callee (f := 66) rfl ?_); refine goesL_ (some 8) rfl rfl Try.func66 (by kernel_rfl) rfl #[.int .i64 a1] rfl (by simp only [ml]; try rfl) ?_; (with_reducible refine (leb_sized.calls a1 true _ A3.out).mono ?_); rintro e w' ⟨rfl, ⟨nd, rfl⟩⟩; refine ⟨_, rfl, ?_⟩))
  go_ret2
  exact ⟨_, by first | rfl | (simp [errW_none, errW_some] <;> rfl) | (simp only [← hji6, ← hji8]; first | rfl | (simp [errW_none, errW_some] <;> rfl)) | (simp [*, errW_none, errW_some] <;> rfl), by first | exact Kd.R_nil _ _ _ _ _ | exact Kd.N_nil _ _ _ _ _, by exact bl_g HB.out⟩
 rw [if_neg c9] at H
 have c9b0 : decide (a0 < (ji8)) = false := decide_eq_false c9
 clear c9
 obtain ⟨ji10, hji10⟩ : ∃ j_ : Int, (wrap64 (8 * a1)) = j_ := ⟨_, rfl⟩
 replace H : (if 0 ≤ (ji10) then (if a0 ≥ (shl .i64 1 (ji10)) then (some (([] : List Int), 11)) else ((leb_low_uint64.f k (IntKind.u64.wrap (a0)) a1).bind fun t102 => (some (t102, 0)))) else (none)) = some (r1, r2) := by first | (rw [hji10] at H; exact H) | (simp only [hji10] at H ⊢; exact H)
 (try rw [hji10] at A3)
 have hji10w : (IntKind.i64.wrap (8 * a1)) = ji10 := (i64_w _).trans hji10
 (try (have hji10ji6 : (wrap64 (ji10 - 1)) = ji6 := by (rw [← hji10]; exact hji6)))
 (try (have hji10ji6w : (IntKind.i64.wrap (ji10 - 1)) = ji6 := (i64_w _).trans hji10ji6))
 by_cases c11 : 0 ≤ (ji10)
 rotate_left
 ·
  rw [if_neg c11] at H
  exact absurd H (by simp)
 rw [if_pos c11] at H
 have c11b0 := eq_true c11
 have c11b1 : decide (0 ≤ (ji10)) = true := decide_eq_true c11
 clear c11
 obtain ⟨ji12, hji12⟩ : ∃ j_ : Int, (shl .i64 1 (ji10)) = j_ := ⟨_, rfl⟩
 replace H : (if a0 ≥ (ji12) then (some (([] : List Int), 11)) else ((leb_low_uint64.f k (IntKind.u64.wrap (a0)) a1).bind fun t102 => (some (t102, 0)))) = some (r1, r2) := by first | (rw [hji12] at H; exact H) | (simp only [hji12] at H ⊢; exact H)
 (try rw [hji12] at A3)
 have hji12_ : (IntKind.i64.wrap (1 * 2 ^ min (ji10).toNat 64)) = ji12 := hji12
 have hji12z : (ji10) ≤ 64 → (IntKind.i64.wrap (1 * 2 ^ (ji10).toNat)) = ji12 := shl_small hji12
 have hji12u : (IntKind.i64.wrap (2 ^ min (ji10).toNat 64)) = ji12 := by have h_ := hji12_; rw [Int.one_mul] at h_; exact h_
 have hji12v : (ji10) ≤ 64 → (IntKind.i64.wrap (2 ^ (ji10).toNat)) = ji12 := fun hle_ => by have h_ := hji12z hle_; rw [Int.one_mul] at h_; exact h_
 have hji12y : (wrap64 (1 * 2 ^ min (ji10).toNat 64)) = ji12 := (i64_w _).symm.trans hji12_
 have hji12x : (ji10) ≤ 64 → (wrap64 (1 * 2 ^ (ji10).toNat)) = ji12 := fun h_ => (i64_w _).symm.trans (hji12z h_)
 by_cases c13 : a0 ≥ (ji12)
 ·
  rw [if_pos c13] at H
  have c13b0 : decide ((ji12) ≤ a0) = true := decide_eq_true c13
  clear c13
  simp only [Option.some.injEq, Prod.mk.injEq] at H
  obtain ⟨rfl, rfl⟩ := H
  go_enter Try.func40, Try.ntmps40
  go_wp2_with (first | ((with_reducible refine gate_callee (f := 66) rfl ?_); refine goesL_ (some 8) rfl rfl Try.func66 (by kernel_rfl) rfl #[.int .i64 a1] rfl (by simp only [ml]; try rfl) ?_; (with_reducible refine (leb_sized.calls a1 true _ A3.out).mono ?_); rintro e w' ⟨rfl, ⟨nd, rfl⟩⟩; refine ⟨_, rfl, ?_⟩))
  go_ret2
  exact ⟨_, by first | rfl | (simp [errW_none, errW_some] <;> rfl) | (simp only [← hji6, ← hji8, ← hji10, ← hji12]; first | rfl | (simp [errW_none, errW_some] <;> rfl)) | (simp [*, errW_none, errW_some] <;> rfl), by first | exact Kd.R_nil _ _ _ _ _ | exact Kd.N_nil _ _ _ _ _, by exact bl_g HB.out⟩
 rw [if_neg c13] at H
 have c13b0 : decide ((ji12) ≤ a0) = false := decide_eq_false c13
 clear c13
 replace H := Option.bind_eq_some_iff.mp H
 obtain ⟨t102, A140, H⟩ := H
 replace H : (some (t102, 0)) = some (r1, r2) := H
 have A14 := am A140
 clear A140
 simp only [Option.some.injEq, Prod.mk.injEq] at H
 obtain ⟨rfl, rfl⟩ := H
 go_enter Try.func40, Try.ntmps40
 go_wp2_with (first | ((with_reducible refine gate_callee (f := 66) rfl ?_); refine goesL_ (some 8) rfl rfl Try.func66 (by kernel_rfl) rfl #[.int .i64 a1] rfl (by simp only [ml]; try rfl) ?_; (with_reducible refine (leb_sized.calls a1 true _ A3.out).mono ?_); rintro e w' ⟨rfl, ⟨nd, rfl⟩⟩; refine ⟨_, rfl, ?_⟩) | ((with_reducible refine gate_callee (f := 67) rfl ?_); refine goesL_ (some 31) rfl rfl Try.func67 (by kernel_rfl) rfl #[.int .u64 (IntKind.u64.wrap (a0)), .int .i64 a1] rfl (by simp only [ml]; try rfl) ?_; (with_reducible refine (leb_low_uint64.calls k (IntKind.u64.wrap (a0)) a1 t102 _ A14.out).mono ?_); rintro e w15 ⟨v103, rfl, ho0, hb⟩; refine ⟨_, rfl, ?_⟩; refine mv2 (am (Kd.R_lower ho0 (below_size (by exact bl_o HB.out)))) (am (below_step (by exact bl_o HB.out) hb)) ?_; clear HB; intro HO104 HB))
 go_ret2
 exact ⟨_, by first | rfl | (simp [errW_none, errW_some] <;> rfl) | (simp only [← hji6, ← hji8, ← hji10, ← hji12]; first | rfl | (simp [errW_none, errW_some] <;> rfl)) | (simp [*, errW_none, errW_some] <;> rfl), by (with_reducible repeat (first | apply Kd.R_alloc | apply Kd.R_drewN | apply Kd.R_drew)); exact HO104.out, by exact bl_g HB.out⟩
mutual
def ehframe_Put.j0 : Nat → Int → Int → Bool → Option (List Int × Int)
  | 0, _, _, _ => none
  | k + 1, x1, x106000, x106001 => (ehframe_near.f k (([x1] : List Int))).bind fun t113 => (if t113 = true then (if x106001 = true then (ehframe_Put.j1 k x1 false x106000 x106001) else (ehframe_Put.j1 k x1 (decide (x1 < 0)) x106000 x106001)) else (ehframe_Put.j1 k x1 true x106000 x106001))
def ehframe_Put.j1 : Nat → Int → Bool → Int → Bool → Option (List Int × Int)
  | 0, _, _, _, _ => none
  | k + 1, x1, x52, x106000, x106001 => if x52 = true then (some (([] : List Int), 11)) else (if x106000 = 0 then (ehframe_Put.j2 k x1 x106001 x106000 x106001) else (ehframe_Put.j2 k x1 false x106000 x106001))
def ehframe_Put.j2 : Nat → Int → Bool → Int → Bool → Option (List Int × Int)
  | 0, _, _, _, _ => none
  | k + 1, x1, x53, x106000, x106001 => if x53 = true then ((leb_Sleb.f k x1).bind fun t114 => (some (t114, 0))) else (if x106000 = 0 then ((leb_Uleb.f k x1).bind fun t117 => (some (t117, 0))) else ((leb_Fits.f k x1 (wrap64 (8 * x106000)) x106001).bind fun t120 => (if t120 = true then ((leb_Put.f k x1 8).bind fun bt121 => (if 0 ≤ x106000 then (if x106000 ≤ (bt121.1.length : Int) then (some ((bt121.1.take (x106000 : Int).toNat), 0)) else (none)) else (none))) else (some (([] : List Int), 11)))))
end
def ehframe_Put.f (k : Nat) (a0 : Int) (a1 : Int) (a2 : Int) (a3 : Int) : Option (List Int × Int) := (ehframe_of.f a0).bind fun bt101 => (if bt101.2.2.2 = true then ((ehframe_near.f k (([a1, a2, a3] : List Int))).bind fun t109 => (if t109 = true then (if bt101.2.2.1 = 16 then (ehframe_Put.j0 k (wrap64 (a1 - a2)) bt101.1 bt101.2.1) else (if bt101.2.2.1 = 48 then (ehframe_Put.j0 k (wrap64 (a1 - a3)) bt101.1 bt101.2.1) else (ehframe_Put.j0 k a1 bt101.1 bt101.2.1))) else (some (([] : List Int), 11)))) else (some (([] : List Int), 140)))
theorem ehframe_Put.mono_l : ∀ k, (∀ y0 y1 y2, LeO (ehframe_Put.j0 k y0 y1 y2) (ehframe_Put.j0 (k + 1) y0 y1 y2)) ∧ (∀ y0 y1 y2 y3, LeO (ehframe_Put.j1 k y0 y1 y2 y3) (ehframe_Put.j1 (k + 1) y0 y1 y2 y3)) ∧ (∀ y0 y1 y2 y3, LeO (ehframe_Put.j2 k y0 y1 y2 y3) (ehframe_Put.j2 (k + 1) y0 y1 y2 y3))
  | 0 => ⟨fun _ _ _ r h => by simp [ehframe_Put.j0] at h, fun _ _ _ _ r h => by simp [ehframe_Put.j1] at h, fun _ _ _ _ r h => by simp [ehframe_Put.j2] at h⟩
  | k + 1 => by
    obtain ⟨ih0, ih1, ih2⟩ := ehframe_Put.mono_l k
    refine ⟨?_, ?_, ?_⟩
    · intro y0 y1 y2
      unfold ehframe_Put.j0
      repeat' first
      | (with_reducible exact ih0 _ _ _)
      | (with_reducible exact ih1 _ _ _ _)
      | (with_reducible exact ih2 _ _ _ _)
      | (with_reducible exact ehframe_near.mono _ _)
      | (with_reducible exact leb_Fits.mono _ _ _ _)
      | (with_reducible exact leb_Put.mono _ _ _)
      | (with_reducible exact leb_Sleb.mono _ _)
      | (with_reducible exact leb_Uleb.mono _ _)
      | (with_reducible exact LeO.refl _)
      | (with_reducible exact LeO.none _)
      | (with_reducible refine LeO.ite ?_ ?_)
      | (with_reducible refine LeO.bind ?_ (fun _ => ?_))
      | exact ih0 _ _ _
      | exact ih1 _ _ _ _
      | exact ih2 _ _ _ _
      | exact ehframe_near.mono _ _
      | exact leb_Fits.mono _ _ _ _
      | exact leb_Put.mono _ _ _
      | exact leb_Sleb.mono _ _
      | exact leb_Uleb.mono _ _
      | exact LeO.none _
      | refine LeO.ite ?_ ?_
      | refine LeO.bind ?_ (fun _ => ?_)
    · intro y0 y1 y2 y3
      unfold ehframe_Put.j1
      repeat' first
      | (with_reducible exact ih0 _ _ _)
      | (with_reducible exact ih1 _ _ _ _)
      | (with_reducible exact ih2 _ _ _ _)
      | (with_reducible exact ehframe_near.mono _ _)
      | (with_reducible exact leb_Fits.mono _ _ _ _)
      | (with_reducible exact leb_Put.mono _ _ _)
      | (with_reducible exact leb_Sleb.mono _ _)
      | (with_reducible exact leb_Uleb.mono _ _)
      | (with_reducible exact LeO.refl _)
      | (with_reducible exact LeO.none _)
      | (with_reducible refine LeO.ite ?_ ?_)
      | (with_reducible refine LeO.bind ?_ (fun _ => ?_))
      | exact ih0 _ _ _
      | exact ih1 _ _ _ _
      | exact ih2 _ _ _ _
      | exact ehframe_near.mono _ _
      | exact leb_Fits.mono _ _ _ _
      | exact leb_Put.mono _ _ _
      | exact leb_Sleb.mono _ _
      | exact leb_Uleb.mono _ _
      | exact LeO.none _
      | refine LeO.ite ?_ ?_
      | refine LeO.bind ?_ (fun _ => ?_)
    · intro y0 y1 y2 y3
      unfold ehframe_Put.j2
      repeat' first
      | (with_reducible exact ih0 _ _ _)
      | (with_reducible exact ih1 _ _ _ _)
      | (with_reducible exact ih2 _ _ _ _)
      | (with_reducible exact ehframe_near.mono _ _)
      | (with_reducible exact leb_Fits.mono _ _ _ _)
      | (with_reducible exact leb_Put.mono _ _ _)
      | (with_reducible exact leb_Sleb.mono _ _)
      | (with_reducible exact leb_Uleb.mono _ _)
      | (with_reducible exact LeO.refl _)
      | (with_reducible exact LeO.none _)
      | (with_reducible refine LeO.ite ?_ ?_)
      | (with_reducible refine LeO.bind ?_ (fun _ => ?_))
      | exact ih0 _ _ _
      | exact ih1 _ _ _ _
      | exact ih2 _ _ _ _
      | exact ehframe_near.mono _ _
      | exact leb_Fits.mono _ _ _ _
      | exact leb_Put.mono _ _ _
      | exact leb_Sleb.mono _ _
      | exact leb_Uleb.mono _ _
      | exact LeO.none _
      | refine LeO.ite ?_ ?_
      | refine LeO.bind ?_ (fun _ => ?_)
theorem ehframe_Put.mono : ∀ a0 a1 a2 a3 k, LeO (ehframe_Put.f k a0 a1 a2 a3) (ehframe_Put.f (k + 1) a0 a1 a2 a3) := by
 intro a0 a1 a2 a3 k
 obtain ⟨ih0, ih1, ih2⟩ := ehframe_Put.mono_l k
 unfold ehframe_Put.f
 repeat' first
     | (with_reducible exact ih0 _ _ _)
     | (with_reducible exact ih1 _ _ _ _)
     | (with_reducible exact ih2 _ _ _ _)
     | (with_reducible exact ehframe_near.mono _ _)
     | (with_reducible exact leb_Fits.mono _ _ _ _)
     | (with_reducible exact leb_Put.mono _ _ _)
     | (with_reducible exact leb_Sleb.mono _ _)
     | (with_reducible exact leb_Uleb.mono _ _)
     | (with_reducible exact LeO.refl _)
     | (with_reducible exact LeO.none _)
     | (with_reducible refine LeO.ite ?_ ?_)
     | (with_reducible refine LeO.bind ?_ (fun _ => ?_))
     | exact ih0 _ _ _
     | exact ih1 _ _ _ _
     | exact ih2 _ _ _ _
     | exact ehframe_near.mono _ _
     | exact leb_Fits.mono _ _ _ _
     | exact leb_Put.mono _ _ _
     | exact leb_Sleb.mono _ _
     | exact leb_Uleb.mono _ _
     | exact LeO.none _
     | refine LeO.ite ?_ ?_
     | refine LeO.bind ?_ (fun _ => ?_)
set_option maxHeartbeats 8000000 in
theorem ehframe_Put.calls (k : Nat) (a0 : Int) (a1 : Int) (a2 : Int) (a3 : Int) (r1 : List Int) (r2 : Int) (w : World) (h : ehframe_Put.f k a0 a1 a2 a3 = some (r1, r2)) :
    Calls Try.prog 16 #[.int .i64 a0, .int .i64 a1, .int .i64 a2, .int .i64 a3] w fun e w' => ∃ v0_ : Value, e = .returned (.tuple #[v0_, .int .i64 r2]) ∧ Kd.R (Kd.int .u8) 5 w' w.heap.size (fun _ => True) v0_ r1 ∧ Below w.heap.size w w' := by
 have hu76 := Try.underlying76
 have HB := am (Below.refl w.heap.size w)
 have H : ((ehframe_of.f a0).bind fun bt101 => (if bt101.2.2.2 = true then ((ehframe_near.f k (([a1, a2, a3] : List Int))).bind fun t109 => (if t109 = true then (if bt101.2.2.1 = 16 then (ehframe_Put.j0 k (wrap64 (a1 - a2)) bt101.1 bt101.2.1) else (if bt101.2.2.1 = 48 then (ehframe_Put.j0 k (wrap64 (a1 - a3)) bt101.1 bt101.2.1) else (ehframe_Put.j0 k a1 bt101.1 bt101.2.1))) else (some (([] : List Int), 11)))) else (some (([] : List Int), 140)))) = some (r1, r2) := h
 clear h
 replace H := Option.bind_eq_some_iff.mp H
 obtain ⟨⟨t101, t102, t103, t104⟩, A50, H⟩ := H
 replace H : (if t104 = true then ((ehframe_near.f k (([a1, a2, a3] : List Int))).bind fun t109 => (if t109 = true then (if t103 = 16 then (ehframe_Put.j0 k (wrap64 (a1 - a2)) t101 t102) else (if t103 = 48 then (ehframe_Put.j0 k (wrap64 (a1 - a3)) t101 t102) else (ehframe_Put.j0 k a1 t101 t102))) else (some (([] : List Int), 11)))) else (some (([] : List Int), 140))) = some (r1, r2) := H
 have A5 := am A50
 clear A50
 by_cases c6 : t104 = true
 rotate_left
 ·
  replace c6 := Bool.eq_false_iff.mpr c6
  subst c6
  replace H : (some (([] : List Int), 140)) = some (r1, r2) := by rw [if_neg (show ¬ (false = true) by decide)] at H; exact H
  simp only [Option.some.injEq, Prod.mk.injEq] at H
  obtain ⟨rfl, rfl⟩ := H
  go_enter Try.func16, Try.ntmps16
  go_wp2_with (first | ((with_reducible refine gate_callee (f := 29) rfl ?_); refine goesL_ (some 17) rfl rfl Try.func29 (by kernel_rfl) rfl #[.int .i64 a0] rfl (by simp only [ml]; try rfl) ?_; (with_reducible refine (ehframe_of.calls a0 t101 t102 t103 false _ A5.out).mono ?_); rintro e w62 ⟨rfl, hb⟩; refine ⟨_, rfl, ?_⟩; have n0_ := am (below_step (by exact bl_o HB.out) hb); clear HB; have HB := n0_; clear n0_) | ((with_reducible refine gate_dst (N := 10) rfl ?_); refine box_event ?hg (N := 10) ?hd (cs := #[.int .i64 0, .bool false]) (t := 76) ?hr ?_; (case hd => rfl); (case hg => rfl); (case hr => go_simp; try rfl); intro gb105 hg w63 hbox hb; refine mv3 (am (below_step (by exact bl_o HB.out) hb)) (am (hbox)) (lei (by rw [hg]; exact (below_size (by exact bl_o HB.out)) : w.heap.size ≤ gb105)) ?_; clear HB; intro HB BK105 GW105; have GE105 := GW105; clear hb hbox hg; obtain ⟨hcz64_0, hcz64_1, hfz64_0, hfz64_1⟩ := cells2 BK105.out))
  go_ret2
  exact ⟨_, rfl, by first | exact Kd.R_nil _ _ _ _ _ | exact Kd.N_nil _ _ _ _ _, by exact bl_g HB.out⟩
 subst c6
 replace H : ((ehframe_near.f k (([a1, a2, a3] : List Int))).bind fun t109 => (if t109 = true then (if t103 = 16 then (ehframe_Put.j0 k (wrap64 (a1 - a2)) t101 t102) else (if t103 = 48 then (ehframe_Put.j0 k (wrap64 (a1 - a3)) t101 t102) else (ehframe_Put.j0 k a1 t101 t102))) else (some (([] : List Int), 11)))) = some (r1, r2) := by rw [if_pos rfl] at H; exact H
 obtain ⟨y106, hy106⟩ : ∃ y_ : List Int, y_ = (([a1, a2, a3] : List Int)) := ⟨_, rfl⟩
 replace H : ((ehframe_near.f k y106).bind fun t109 => (if t109 = true then (if t103 = 16 then (ehframe_Put.j0 k (wrap64 (a1 - a2)) t101 t102) else (if t103 = 48 then (ehframe_Put.j0 k (wrap64 (a1 - a3)) t101 t102) else (ehframe_Put.j0 k a1 t101 t102))) else (some (([] : List Int), 11)))) = some (r1, r2) := by first | (rw [hy106]; with_reducible exact H) | (have H2_ := (Option.bind_some _ _).symm.trans H; rw [hy106]; with_reducible exact H2_)
 have Ny106 := am hy106
 clear hy106
 replace H := Option.bind_eq_some_iff.mp H
 obtain ⟨t109, A70, H⟩ := H
 replace H : (if t109 = true then (if t103 = 16 then (ehframe_Put.j0 k (wrap64 (a1 - a2)) t101 t102) else (if t103 = 48 then (ehframe_Put.j0 k (wrap64 (a1 - a3)) t101 t102) else (ehframe_Put.j0 k a1 t101 t102))) else (some (([] : List Int), 11))) = some (r1, r2) := H
 have A7 := am A70
 clear A70
 by_cases c8 : t109 = true
 rotate_left
 ·
  replace c8 := Bool.eq_false_iff.mpr c8
  subst c8
  replace H : (some (([] : List Int), 11)) = some (r1, r2) := by rw [if_neg (show ¬ (false = true) by decide)] at H; exact H
  simp only [Option.some.injEq, Prod.mk.injEq] at H
  obtain ⟨rfl, rfl⟩ := H
  go_enter Try.func16, Try.ntmps16
  go_wp2_with (first | ((with_reducible refine gate_callee (f := 29) rfl ?_); refine goesL_ (some 17) rfl rfl Try.func29 (by kernel_rfl) rfl #[.int .i64 a0] rfl (by simp only [ml]; try rfl) ?_; (with_reducible refine (ehframe_of.calls a0 t101 t102 t103 true _ A5.out).mono ?_); rintro e w56 ⟨rfl, hb⟩; refine ⟨_, rfl, ?_⟩; have n0_ := am (below_step (by exact bl_o HB.out) hb); clear HB; have HB := n0_; clear n0_) | ((with_reducible refine gate_dst (N := 10) rfl ?_); refine box_event ?hg (N := 10) ?hd (cs := #[.int .i64 0, .bool false]) (t := 76) ?hr ?_; (case hd => rfl); (case hg => rfl); (case hr => go_simp; try rfl); intro gb105 hg w57 hbox hb; refine mv3 (am (below_step (by exact bl_o HB.out) hb)) (am (hbox)) (lei (by rw [hg]; exact (below_size (by exact bl_o HB.out)) : w.heap.size ≤ gb105)) ?_; clear HB; intro HB BK105 GW105; have GE105 := GW105; clear hb hbox hg; obtain ⟨hcz58_0, hcz58_1, hfz58_0, hfz58_1⟩ := cells2 BK105.out) | ((with_reducible refine gate_dst (N := 26) rfl ?_); refine Kd.R_lit (Kd.int .i64) _ 3 ?hg (N := 26) ?hd (xs := ([a1, a2, a3] : List Int)) (inner := [.int .i64 a1, .int .i64 a2, .int .i64 a3]) (ok := fun _ => True) (okp := fun _ => True) ?hr ?hp (fun _ hk => hk) trivial (Below.refl _ _) (Nat.le_refl _) (by simp) ?_; (case hd => rfl); (case hg => rfl); (case hr => go_simp; try rfl); (case hp => exact (Reps.one (show Kd.M (Kd.int .i64) _ _ _ a1 [.int .i64 a1] from rfl) (Reps.one (show Kd.M (Kd.int .i64) _ _ _ a2 [.int .i64 a2] from rfl) (Reps.one (show Kd.M (Kd.int .i64) _ _ _ a3 [.int .i64 a3] from rfl) (Reps.none _ _))))); intro v107 w59 ho60 hb hg_ hnew_; clear hg_ hnew_; (first | rw [← Ny106.out] at ho60 | (simp only [Int.reduceToNat] at ho60; rw [← Ny106.out] at ho60)); refine mv3 (am (Kd.R_lower ho60 (below_size (by exact bl_g HB.out)))) (am (blk_below (g := gb105) (o := .cells #[.int .i64 t101, .bool t102] 76 (0, 0)) (bps BK105.out rfl) hb)) (am (below_step (by exact bl_g HB.out) hb)) ?_; clear BK105 HB; intro HO108 BK105 HB; clear hb ho60; obtain ⟨Ao61, co61, eo61⟩ := Kd.R_slice HO108.out; subst eo61) | ((with_reducible refine gate_callee (f := 30) rfl ?_); refine goesL_ (some 27) rfl rfl Try.func30 (by kernel_rfl) rfl #[.slice Ao61 y106.length co61] rfl (by simp only [ml]; try rfl) ?_; (with_reducible refine (ehframe_near.calls k _ _ y106 false _ ?side1 ?side2 A7.out).mono ?_); (case side1 => exact Kd.C_o ((Kd.R_reads' HO108.out).2.2)); (case side2 => exact (Kd.R_reads' HO108.out).2.1); rintro e w' ⟨rfl, ⟨nd, rfl⟩⟩; refine ⟨_, rfl, ?_⟩))
  go_ret2
  exact ⟨_, rfl, by first | exact Kd.R_nil _ _ _ _ _ | exact Kd.N_nil _ _ _ _ _, by exact bl_g HB.out⟩
 subst c8
 replace H : (if t103 = 16 then (ehframe_Put.j0 k (wrap64 (a1 - a2)) t101 t102) else (if t103 = 48 then (ehframe_Put.j0 k (wrap64 (a1 - a3)) t101 t102) else (ehframe_Put.j0 k a1 t101 t102))) = some (r1, r2) := by rw [if_pos rfl] at H; exact H
 have HC9 := am H
 clear H
 go_enter Try.func16, Try.ntmps16
 go_upto_block 0 with (first | ((with_reducible refine gate_callee (f := 29) rfl ?_); refine goesL_ (some 17) rfl rfl Try.func29 (by kernel_rfl) rfl #[.int .i64 a0] rfl (by simp only [ml]; try rfl) ?_; (with_reducible refine (ehframe_of.calls a0 t101 t102 t103 true _ A5.out).mono ?_); rintro e w10 ⟨rfl, hb⟩; refine ⟨_, rfl, ?_⟩; have n0_ := am (below_step (by exact bl_o HB.out) hb); clear HB; have HB := n0_; clear n0_) | ((with_reducible refine gate_dst (N := 10) rfl ?_); refine box_event ?hg (N := 10) ?hd (cs := #[.int .i64 0, .bool false]) (t := 76) ?hr ?_; (case hd => rfl); (case hg => rfl); (case hr => go_simp; try rfl); intro gb105 hg w11 hbox hb; refine mv3 (am (below_step (by exact bl_o HB.out) hb)) (am (hbox)) (lei (by rw [hg]; exact (below_size (by exact bl_o HB.out)) : w.heap.size ≤ gb105)) ?_; clear HB; intro HB BK105 GW105; have GE105 := GW105; clear hb hbox hg; obtain ⟨hcz12_0, hcz12_1, hfz12_0, hfz12_1⟩ := cells2 BK105.out) | ((with_reducible refine gate_dst (N := 26) rfl ?_); refine Kd.R_lit (Kd.int .i64) _ 3 ?hg (N := 26) ?hd (xs := ([a1, a2, a3] : List Int)) (inner := [.int .i64 a1, .int .i64 a2, .int .i64 a3]) (ok := fun _ => True) (okp := fun _ => True) ?hr ?hp (fun _ hk => hk) trivial (Below.refl _ _) (Nat.le_refl _) (by simp) ?_; (case hd => rfl); (case hg => rfl); (case hr => go_simp; try rfl); (case hp => exact (Reps.one (show Kd.M (Kd.int .i64) _ _ _ a1 [.int .i64 a1] from rfl) (Reps.one (show Kd.M (Kd.int .i64) _ _ _ a2 [.int .i64 a2] from rfl) (Reps.one (show Kd.M (Kd.int .i64) _ _ _ a3 [.int .i64 a3] from rfl) (Reps.none _ _))))); intro v107 w13 ho14 hb hg_ hnew_; clear hg_ hnew_; (first | rw [← Ny106.out] at ho14 | (simp only [Int.reduceToNat] at ho14; rw [← Ny106.out] at ho14)); refine mv3 (am (Kd.R_lower ho14 (below_size (by exact bl_g HB.out)))) (am (blk_below (g := gb105) (o := .cells #[.int .i64 t101, .bool t102] 76 (0, 0)) (bps BK105.out rfl) hb)) (am (below_step (by exact bl_g HB.out) hb)) ?_; clear BK105 HB; intro HO108 BK105 HB; clear hb ho14; obtain ⟨Ao15, co15, eo15⟩ := Kd.R_slice HO108.out; subst eo15) | ((with_reducible refine gate_callee (f := 30) rfl ?_); refine goesL_ (some 27) rfl rfl Try.func30 (by kernel_rfl) rfl #[.slice Ao15 y106.length co15] rfl (by simp only [ml]; try rfl) ?_; (with_reducible refine (ehframe_near.calls k _ _ y106 true _ ?side1 ?side2 A7.out).mono ?_); (case side1 => exact Kd.C_o ((Kd.R_reads' HO108.out).2.2)); (case side2 => exact (Kd.R_reads' HO108.out).2.1); rintro e w' ⟨rfl, ⟨nd, rfl⟩⟩; refine ⟨_, rfl, ?_⟩))
 (try simp only [Act.put, List.setIfInBounds_toArray, List.set_cons_zero, List.set_cons_succ])
 go_cut [1] (fun v1 wc => ∃ (kq : Nat) (x1_8 : Int), v1 = .int .i64 x1_8 ∧ Aside0 (ehframe_Put.j0 kq x1_8 t101 t102 = some (r1, r2)) ∧ Aside0 (kq ≤ k) ∧ Aside0 (wc.heap[gb105]? = some (.cells #[.int .i64 t101, .bool t102] 76 (0, 0))) ∧ Aside0 (Below w.heap.size w wc))
 case first =>
  have H := HC9.out
  clear HC9
  by_cases c16 : t103 = 16
  ·
   rw [if_pos c16] at H
   have c16b0 : (t103 == 16) = true := beq_iff_eq.mpr c16
   have c16b1 : (t103 != 16) = false := bne_eq_false_iff_eq.mpr c16
   clear c16
   (first | rw [c16b0] | (simp only [i64_w, i32_w]; rw [c16b0]) | skip)
   have H' := am H
   clear H
   go_wp2
   go_meet
   case rel => exact ⟨_, (wrap64 (a1 - a2)), (by first | rfl | (simp; done) | (simp [*]; done)), H', ⟨by first | omega | exact Nat.le_refl _⟩, ⟨by (with_reducible repeat (first | refine blk_drewN ?_ _ | refine blk_drew ?_ | refine blk_alloc ?_ _)); exact BK105.out⟩, ⟨by exact bl_g HB.out⟩⟩
  rw [if_neg c16] at H
  have c16b0 : (t103 == 16) = false := beq_eq_false_iff_ne.mpr c16
  have c16b1 : (t103 != 16) = true := bne_iff_ne.mpr c16
  (first | rw [c16b0] | (simp only [i64_w, i32_w]; rw [c16b0]) | skip)
  by_cases c17 : t103 = 48
  ·
   rw [if_pos c17] at H
   have c17b0 : (t103 == 48) = true := beq_iff_eq.mpr c17
   have c17b1 : (t103 != 48) = false := bne_eq_false_iff_eq.mpr c17
   clear c17
   have H' := am H
   clear H
   go_wp2
   go_meet
   case rel => exact ⟨_, (wrap64 (a1 - a3)), (by first | rfl | (simp; done) | (simp [*]; done)), H', ⟨by first | omega | exact Nat.le_refl _⟩, ⟨by (with_reducible repeat (first | refine blk_drewN ?_ _ | refine blk_drew ?_ | refine blk_alloc ?_ _)); exact BK105.out⟩, ⟨by exact bl_g HB.out⟩⟩
  rw [if_neg c17] at H
  have c17b0 : (t103 == 48) = false := beq_eq_false_iff_ne.mpr c17
  have c17b1 : (t103 != 48) = true := bne_iff_ne.mpr c17
  have H' := am H
  clear H
  go_wp2
  go_meet
  case rel => exact ⟨_, (a1), (by first | rfl | (simp; done) | (simp [*]; done)), H', ⟨by first | omega | exact Nat.le_refl _⟩, ⟨by (with_reducible repeat (first | refine blk_drewN ?_ _ | refine blk_drew ?_ | refine blk_alloc ?_ _)); exact BK105.out⟩, ⟨by exact bl_g HB.out⟩⟩
 case rest =>
  clear HC9
  try clear c1
  try clear c2
  try clear p2
  try clear c3
  try clear c6
  try clear p6
  try clear c8
  try clear c16
  try clear c16b0
  try clear c16b1
  try clear c17
  try clear c17b0
  try clear c17b1
  try clear hcz12_0
  try clear hcz12_1
  try clear hfz12_0
  try clear hfz12_1
  obtain ⟨kq, x1_8, rfl, HA, HJ8, BK105, HB⟩ := hcut
  cases kq with
  | zero => exact absurd HA.out (by simp [ehframe_Put.j0])
  | succ kj8 =>
   have H := HA.out
   clear HA
   simp only [ehframe_Put.j0] at H
   have HC18 := am H
   clear H
   go_upto_region 11 with (fail)
   go_cut [52] (fun v52 wc => ∃ (kq : Nat) (x52_17 : Bool), v52 = .bool x52_17 ∧ Aside0 (ehframe_Put.j1 kq x1_8 x52_17 t101 t102 = some (r1, r2)) ∧ Aside0 (kq ≤ kj8) ∧ Aside0 (wc.heap[gb105]? = some (.cells #[.int .i64 t101, .bool t102] 76 (0, 0))) ∧ Aside0 (Below w.heap.size w wc))
   case first =>
    have H := HC18.out
    clear HC18
    obtain ⟨y110, hy110⟩ : ∃ y_ : List Int, y_ = (([x1_8] : List Int)) := ⟨_, rfl⟩
    replace H : ((ehframe_near.f kj8 y110).bind fun t113 => (if t113 = true then (if t102 = true then (ehframe_Put.j1 kj8 x1_8 false t101 t102) else (ehframe_Put.j1 kj8 x1_8 (decide (x1_8 < 0)) t101 t102)) else (ehframe_Put.j1 kj8 x1_8 true t101 t102))) = some (r1, r2) := by first | (rw [hy110]; with_reducible exact H) | (have H2_ := (Option.bind_some _ _).symm.trans H; rw [hy110]; with_reducible exact H2_)
    have Ny110 := am hy110
    clear hy110
    replace H := Option.bind_eq_some_iff.mp H
    obtain ⟨t113, A190, H⟩ := H
    replace H : (if t113 = true then (if t102 = true then (ehframe_Put.j1 kj8 x1_8 false t101 t102) else (ehframe_Put.j1 kj8 x1_8 (decide (x1_8 < 0)) t101 t102)) else (ehframe_Put.j1 kj8 x1_8 true t101 t102)) = some (r1, r2) := H
    have A19 := am A190
    clear A190
    by_cases c20 : t113 = true
    rotate_left
    ·
     replace c20 := Bool.eq_false_iff.mpr c20
     subst c20
     replace H : (ehframe_Put.j1 kj8 x1_8 true t101 t102) = some (r1, r2) := by rw [if_neg (show ¬ (false = true) by decide)] at H; exact H
     have H' := am H
     clear H
     go_wp2_with (first | ((with_reducible refine gate_dst (N := 41) rfl ?_); refine Kd.R_lit (Kd.int .i64) _ 3 ?hg (N := 41) ?hd (xs := ([x1_8] : List Int)) (inner := [.int .i64 x1_8]) (ok := fun _ => True) (okp := fun _ => True) ?hr ?hp (fun _ hk => hk) trivial (Below.refl _ _) (Nat.le_refl _) (by simp) ?_; (case hd => rfl); (case hg => rfl); (case hr => go_simp; try rfl); (case hp => exact (Reps.one (show Kd.M (Kd.int .i64) _ _ _ x1_8 [.int .i64 x1_8] from rfl) (Reps.none _ _))); intro v111 w30 ho31 hb hg_ hnew_; clear hg_ hnew_; (first | rw [← Ny110.out] at ho31 | (simp only [Int.reduceToNat] at ho31; rw [← Ny110.out] at ho31)); refine mv3 (am (Kd.R_lower ho31 (below_size (by exact bl_g HB.out)))) (am (blk_below (blk_o BK105.out) hb)) (am (below_step (by exact bl_g HB.out) hb)) ?_; clear BK105 HB; intro HO112 BK105 HB; clear hb ho31; obtain ⟨Ao32, co32, eo32⟩ := Kd.R_slice HO112.out; subst eo32) | ((with_reducible refine gate_callee (f := 30) rfl ?_); refine goesL_ (some 42) rfl rfl Try.func30 (by kernel_rfl) rfl #[.slice Ao32 y110.length co32] rfl (by simp only [ml]; try rfl) ?_; (with_reducible refine (ehframe_near.calls kj8 _ _ y110 false _ ?side1 ?side2 A19.out).mono ?_); (case side1 => exact Kd.C_o ((Kd.R_reads' HO112.out).2.2)); (case side2 => exact (Kd.R_reads' HO112.out).2.1); rintro e w' ⟨rfl, ⟨nd, rfl⟩⟩; refine ⟨_, rfl, ?_⟩))
     go_meet
     case rel => exact ⟨_, (true), (by first | rfl | (simp; done) | (simp [*]; done)), H', ⟨by have := HJ8.out; first | omega | exact Nat.le_refl _⟩, ⟨by (with_reducible repeat (first | refine blk_drewN ?_ _ | refine blk_drew ?_ | refine blk_alloc ?_ _)); exact BK105.out⟩, ⟨by exact bl_g HB.out⟩⟩
    subst c20
    replace H : (if t102 = true then (ehframe_Put.j1 kj8 x1_8 false t101 t102) else (ehframe_Put.j1 kj8 x1_8 (decide (x1_8 < 0)) t101 t102)) = some (r1, r2) := by rw [if_pos rfl] at H; exact H
    by_cases c21 : t102 = true
    ·
     subst c21
     replace H : (ehframe_Put.j1 kj8 x1_8 false t101 true) = some (r1, r2) := by rw [if_pos rfl] at H; exact H
     have H' := am H
     clear H
     go_wp2_with (first | ((with_reducible refine gate_dst (N := 41) rfl ?_); refine Kd.R_lit (Kd.int .i64) _ 3 ?hg (N := 41) ?hd (xs := ([x1_8] : List Int)) (inner := [.int .i64 x1_8]) (ok := fun _ => True) (okp := fun _ => True) ?hr ?hp (fun _ hk => hk) trivial (Below.refl _ _) (Nat.le_refl _) (by simp) ?_; (case hd => rfl); (case hg => rfl); (case hr => go_simp; try rfl); (case hp => exact (Reps.one (show Kd.M (Kd.int .i64) _ _ _ x1_8 [.int .i64 x1_8] from rfl) (Reps.none _ _))); intro v111 w22 ho23 hb hg_ hnew_; clear hg_ hnew_; (first | rw [← Ny110.out] at ho23 | (simp only [Int.reduceToNat] at ho23; rw [← Ny110.out] at ho23)); refine mv3 (am (Kd.R_lower ho23 (below_size (by exact bl_g HB.out)))) (am (blk_below (blk_o BK105.out) hb)) (am (below_step (by exact bl_g HB.out) hb)) ?_; clear BK105 HB; intro HO112 BK105 HB; clear hb ho23; obtain ⟨Ao24, co24, eo24⟩ := Kd.R_slice HO112.out; subst eo24) | ((with_reducible refine gate_callee (f := 30) rfl ?_); refine goesL_ (some 42) rfl rfl Try.func30 (by kernel_rfl) rfl #[.slice Ao24 y110.length co24] rfl (by simp only [ml]; try rfl) ?_; (with_reducible refine (ehframe_near.calls kj8 _ _ y110 true _ ?side1 ?side2 A19.out).mono ?_); (case side1 => exact Kd.C_o ((Kd.R_reads' HO112.out).2.2)); (case side2 => exact (Kd.R_reads' HO112.out).2.1); rintro e w' ⟨rfl, ⟨nd, rfl⟩⟩; refine ⟨_, rfl, ?_⟩; obtain ⟨hcz25_0, hcz25_1, hfz25_0, hfz25_1⟩ := cells2 BK105.out))
     go_meet
     case rel => exact ⟨_, (false), (by first | rfl | (simp; done) | (simp [*]; done)), H', ⟨by have := HJ8.out; first | omega | exact Nat.le_refl _⟩, ⟨by (with_reducible repeat (first | refine blk_drewN ?_ _ | refine blk_drew ?_ | refine blk_alloc ?_ _)); exact BK105.out⟩, ⟨by exact bl_g HB.out⟩⟩
    replace c21 := Bool.eq_false_iff.mpr c21
    subst c21
    replace H : (ehframe_Put.j1 kj8 x1_8 (decide (x1_8 < 0)) t101 false) = some (r1, r2) := by rw [if_neg (show ¬ (false = true) by decide)] at H; exact H
    have H' := am H
    clear H
    go_wp2_with (first | ((with_reducible refine gate_dst (N := 41) rfl ?_); refine Kd.R_lit (Kd.int .i64) _ 3 ?hg (N := 41) ?hd (xs := ([x1_8] : List Int)) (inner := [.int .i64 x1_8]) (ok := fun _ => True) (okp := fun _ => True) ?hr ?hp (fun _ hk => hk) trivial (Below.refl _ _) (Nat.le_refl _) (by simp) ?_; (case hd => rfl); (case hg => rfl); (case hr => go_simp; try rfl); (case hp => exact (Reps.one (show Kd.M (Kd.int .i64) _ _ _ x1_8 [.int .i64 x1_8] from rfl) (Reps.none _ _))); intro v111 w26 ho27 hb hg_ hnew_; clear hg_ hnew_; (first | rw [← Ny110.out] at ho27 | (simp only [Int.reduceToNat] at ho27; rw [← Ny110.out] at ho27)); refine mv3 (am (Kd.R_lower ho27 (below_size (by exact bl_g HB.out)))) (am (blk_below (blk_o BK105.out) hb)) (am (below_step (by exact bl_g HB.out) hb)) ?_; clear BK105 HB; intro HO112 BK105 HB; clear hb ho27; obtain ⟨Ao28, co28, eo28⟩ := Kd.R_slice HO112.out; subst eo28) | ((with_reducible refine gate_callee (f := 30) rfl ?_); refine goesL_ (some 42) rfl rfl Try.func30 (by kernel_rfl) rfl #[.slice Ao28 y110.length co28] rfl (by simp only [ml]; try rfl) ?_; (with_reducible refine (ehframe_near.calls kj8 _ _ y110 true _ ?side1 ?side2 A19.out).mono ?_); (case side1 => exact Kd.C_o ((Kd.R_reads' HO112.out).2.2)); (case side2 => exact (Kd.R_reads' HO112.out).2.1); rintro e w' ⟨rfl, ⟨nd, rfl⟩⟩; refine ⟨_, rfl, ?_⟩; obtain ⟨hcz29_0, hcz29_1, hfz29_0, hfz29_1⟩ := cells2 BK105.out))
    go_meet
    case rel => exact ⟨_, (decide (x1_8 < 0)), (by first | rfl | (simp; done) | (simp [*]; done)), H', ⟨by have := HJ8.out; first | omega | exact Nat.le_refl _⟩, ⟨by (with_reducible repeat (first | refine blk_drewN ?_ _ | refine blk_drew ?_ | refine blk_alloc ?_ _)); exact BK105.out⟩, ⟨by exact bl_g HB.out⟩⟩
   case rest =>
    clear HC18
    try clear c1
    try clear c2
    try clear p2
    try clear c3
    try clear c6
    try clear p6
    try clear c8
    try clear c16
    try clear c16b0
    try clear c16b1
    try clear c17
    try clear c17b0
    try clear c17b1
    try clear c20
    try clear c21
    try clear c29
    try clear c30
    try clear hcz12_0
    try clear hcz12_1
    try clear hcz25_0
    try clear hcz25_1
    try clear hcz29_0
    try clear hcz29_1
    try clear hfz12_0
    try clear hfz12_1
    try clear hfz25_0
    try clear hfz25_1
    try clear hfz29_0
    try clear hfz29_1
    try clear p2
    try clear p6
    obtain ⟨kq, x52_17, rfl, HA, HJ17, BK105, HB⟩ := hcut
    cases kq with
    | zero => exact absurd HA.out (by simp [ehframe_Put.j1])
    | succ kj17 =>
     have H := HA.out
     clear HA
     simp only [ehframe_Put.j1] at H
     by_cases c33 : x52_17 = true
     ·
      subst c33
      replace H : (some (([] : List Int), 11)) = some (r1, r2) := by rw [if_pos rfl] at H; exact H
      simp only [Option.some.injEq, Prod.mk.injEq] at H
      obtain ⟨rfl, rfl⟩ := H
      go_wp2
      go_ret2
      exact ⟨_, rfl, by first | exact Kd.R_nil _ _ _ _ _ | exact Kd.N_nil _ _ _ _ _, by exact bl_g HB.out⟩
     replace c33 := Bool.eq_false_iff.mpr c33
     subst c33
     replace H : (if t101 = 0 then (ehframe_Put.j2 kj17 x1_8 t102 t101 t102) else (ehframe_Put.j2 kj17 x1_8 false t101 t102)) = some (r1, r2) := by rw [if_neg (show ¬ (false = true) by decide)] at H; exact H
     have HC34 := am H
     clear H
     go_upto_region 13 with (fail)
     go_cut [53] (fun v53 wc => ∃ (kq : Nat) (x53_33 : Bool), v53 = .bool x53_33 ∧ Aside0 (ehframe_Put.j2 kq x1_8 x53_33 t101 t102 = some (r1, r2)) ∧ Aside0 (kq ≤ kj17) ∧ Aside0 (wc.heap[gb105]? = some (.cells #[.int .i64 t101, .bool t102] 76 (0, 0))) ∧ Aside0 (Below w.heap.size w wc))
     case first =>
      have H := HC34.out
      clear HC34
      by_cases c35 : t101 = 0
      ·
       rw [if_pos c35] at H
       have c35b0 : (t101 == 0) = true := beq_iff_eq.mpr c35
       have c35b1 : (t101 != 0) = false := bne_eq_false_iff_eq.mpr c35
       clear c35
       (first | rw [c35b0] | (simp only [i64_w, i32_w]; rw [c35b0]) | skip)
       have H' := am H
       clear H
       obtain ⟨hcz36_0, hcz36_1, hfz36_0, hfz36_1⟩ := cells2 BK105.out
       go_wp2
       go_meet
       case rel => exact ⟨_, (t102), (by first | rfl | (simp; done) | (simp [*]; done)), H', ⟨by have := HJ8.out; have := HJ17.out; first | omega | exact Nat.le_refl _⟩, ⟨by (with_reducible repeat (first | refine blk_drewN ?_ _ | refine blk_drew ?_ | refine blk_alloc ?_ _)); exact BK105.out⟩, ⟨by exact bl_g HB.out⟩⟩
      rw [if_neg c35] at H
      have c35b0 : (t101 == 0) = false := beq_eq_false_iff_ne.mpr c35
      have c35b1 : (t101 != 0) = true := bne_iff_ne.mpr c35
      (first | rw [c35b0] | (simp only [i64_w, i32_w]; rw [c35b0]) | skip)
      have H' := am H
      clear H
      obtain ⟨hcz37_0, hcz37_1, hfz37_0, hfz37_1⟩ := cells2 BK105.out
      go_wp2
      go_meet
      case rel => exact ⟨_, (false), (by first | rfl | (simp; done) | (simp [*]; done)), H', ⟨by have := HJ8.out; have := HJ17.out; first | omega | exact Nat.le_refl _⟩, ⟨by (with_reducible repeat (first | refine blk_drewN ?_ _ | refine blk_drew ?_ | refine blk_alloc ?_ _)); exact BK105.out⟩, ⟨by exact bl_g HB.out⟩⟩
     case rest =>
      clear HC34
      try clear c1
      try clear c2
      try clear p2
      try clear c3
      try clear c6
      try clear p6
      try clear c8
      try clear c16
      try clear c16b0
      try clear c16b1
      try clear c17
      try clear c17b0
      try clear c17b1
      try clear c20
      try clear c21
      try clear c29
      try clear c30
      try clear c33
      try clear c35
      try clear c35b0
      try clear c35b1
      try clear hcz12_0
      try clear hcz12_1
      try clear hcz25_0
      try clear hcz25_1
      try clear hcz29_0
      try clear hcz29_1
      try clear hcz36_0
      try clear hcz36_1
      try clear hcz37_0
      try clear hcz37_1
      try clear hfz12_0
      try clear hfz12_1
      try clear hfz25_0
      try clear hfz25_1
      try clear hfz29_0
      try clear hfz29_1
      try clear hfz36_0
      try clear hfz36_1
      try clear hfz37_0
      try clear hfz37_1
      try clear p2
      try clear p6
      obtain ⟨kq, x53_33, rfl, HA, HJ33, BK105, HB⟩ := hcut
      cases kq with
      | zero => exact absurd HA.out (by simp [ehframe_Put.j2])
      | succ kj33 =>
       have H := HA.out
       clear HA
       simp only [ehframe_Put.j2] at H
       by_cases c38 : x53_33 = true
       ·
        subst c38
        replace H : ((leb_Sleb.f kj33 x1_8).bind fun t114 => (some (t114, 0))) = some (r1, r2) := by rw [if_pos rfl] at H; exact H
        replace H := Option.bind_eq_some_iff.mp H
        obtain ⟨t114, A390, H⟩ := H
        replace H : (some (t114, 0)) = some (r1, r2) := H
        have A39 := am A390
        clear A390
        simp only [Option.some.injEq, Prod.mk.injEq] at H
        obtain ⟨rfl, rfl⟩ := H
        go_wp2_with (first | ((with_reducible refine gate_callee (f := 37) rfl ?_); refine goesL_ (some 62) rfl rfl Try.func37 (by kernel_rfl) rfl #[.int .i64 x1_8] rfl (by simp only [ml]; try rfl) ?_; (with_reducible refine (leb_Sleb.calls kj33 x1_8 t114 _ A39.out).mono ?_); rintro e w40 ⟨v115, rfl, ho0, hb⟩; refine ⟨_, rfl, ?_⟩; refine mv3 (am (Kd.R_lower ho0 (below_size (by exact bl_g HB.out)))) (am (blk_below (blk_o BK105.out) hb)) (am (below_step (by exact bl_g HB.out) hb)) ?_; clear BK105 HB; intro HO116 BK105 HB))
        go_ret2
        exact ⟨_, rfl, by (with_reducible repeat (first | apply Kd.R_alloc | apply Kd.R_drewN | apply Kd.R_drew)); exact HO116.out, by exact bl_g HB.out⟩
       replace c38 := Bool.eq_false_iff.mpr c38
       subst c38
       replace H : (if t101 = 0 then ((leb_Uleb.f kj33 x1_8).bind fun t117 => (some (t117, 0))) else ((leb_Fits.f kj33 x1_8 (wrap64 (8 * t101)) t102).bind fun t120 => (if t120 = true then ((leb_Put.f kj33 x1_8 8).bind fun bt121 => (if 0 ≤ t101 then (if t101 ≤ (bt121.1.length : Int) then (some ((bt121.1.take (t101 : Int).toNat), 0)) else (none)) else (none))) else (some (([] : List Int), 11))))) = some (r1, r2) := by rw [if_neg (show ¬ (false = true) by decide)] at H; exact H
       by_cases c41 : t101 = 0
       ·
        rw [if_pos c41] at H
        have c41b0 : (t101 == 0) = true := beq_iff_eq.mpr c41
        have c41b1 : (t101 != 0) = false := bne_eq_false_iff_eq.mpr c41
        clear c41
        replace H := Option.bind_eq_some_iff.mp H
        obtain ⟨t117, A420, H⟩ := H
        replace H : (some (t117, 0)) = some (r1, r2) := H
        have A42 := am A420
        clear A420
        simp only [Option.some.injEq, Prod.mk.injEq] at H
        obtain ⟨rfl, rfl⟩ := H
        obtain ⟨hcz43_0, hcz43_1, hfz43_0, hfz43_1⟩ := cells2 BK105.out
        go_wp2_with (first | ((with_reducible refine gate_callee (f := 38) rfl ?_); refine goesL_ (some 68) rfl rfl Try.func38 (by kernel_rfl) rfl #[.int .i64 x1_8] rfl (by simp only [ml]; try rfl) ?_; (with_reducible refine (leb_Uleb.calls kj33 x1_8 t117 _ A42.out).mono ?_); rintro e w44 ⟨v118, rfl, ho0, hb⟩; refine ⟨_, rfl, ?_⟩; refine mv3 (am (Kd.R_lower ho0 (below_size (by exact bl_g HB.out)))) (am (blk_below (blk_o BK105.out) hb)) (am (below_step (by exact bl_g HB.out) hb)) ?_; clear BK105 HB; intro HO119 BK105 HB))
        go_ret2
        exact ⟨_, rfl, by (with_reducible repeat (first | apply Kd.R_alloc | apply Kd.R_drewN | apply Kd.R_drew)); exact HO119.out, by exact bl_g HB.out⟩
       rw [if_neg c41] at H
       have c41b0 : (t101 == 0) = false := beq_eq_false_iff_ne.mpr c41
       have c41b1 : (t101 != 0) = true := bne_iff_ne.mpr c41
       replace H := Option.bind_eq_some_iff.mp H
       obtain ⟨t120, A450, H⟩ := H
       replace H : (if t120 = true then ((leb_Put.f kj33 x1_8 8).bind fun bt121 => (if 0 ≤ t101 then (if t101 ≤ (bt121.1.length : Int) then (some ((bt121.1.take (t101 : Int).toNat), 0)) else (none)) else (none))) else (some (([] : List Int), 11))) = some (r1, r2) := H
       have A45 := am A450
       clear A450
       by_cases c46 : t120 = true
       rotate_left
       ·
        replace c46 := Bool.eq_false_iff.mpr c46
        subst c46
        replace H : (some (([] : List Int), 11)) = some (r1, r2) := by rw [if_neg (show ¬ (false = true) by decide)] at H; exact H
        simp only [Option.some.injEq, Prod.mk.injEq] at H
        obtain ⟨rfl, rfl⟩ := H
        obtain ⟨hcz55_0, hcz55_1, hfz55_0, hfz55_1⟩ := cells2 BK105.out
        go_wp2_with (first | ((with_reducible refine gate_callee (f := 39) rfl ?_); refine goesL_ (some 76) rfl rfl Try.func39 (by kernel_rfl) rfl #[.int .i64 x1_8, .int .i64 (wrap64 (8 * t101)), .bool t102] rfl (by simp only [ml]; try rfl) ?_; (with_reducible refine (leb_Fits.calls kj33 x1_8 (wrap64 (8 * t101)) t102 false _ A45.out).mono ?_); rintro e w' ⟨rfl, ⟨nd, rfl⟩⟩; refine ⟨_, rfl, ?_⟩))
        go_ret2
        exact ⟨_, rfl, by first | exact Kd.R_nil _ _ _ _ _ | exact Kd.N_nil _ _ _ _ _, by exact bl_g HB.out⟩
       subst c46
       replace H : ((leb_Put.f kj33 x1_8 8).bind fun bt121 => (if 0 ≤ t101 then (if t101 ≤ (bt121.1.length : Int) then (some ((bt121.1.take (t101 : Int).toNat), 0)) else (none)) else (none))) = some (r1, r2) := by rw [if_pos rfl] at H; exact H
       replace H := Option.bind_eq_some_iff.mp H
       obtain ⟨⟨t121, t122⟩, A470, H⟩ := H
       replace H : (if 0 ≤ t101 then (if t101 ≤ (t121.length : Int) then (some ((t121.take (t101 : Int).toNat), 0)) else (none)) else (none)) = some (r1, r2) := H
       have A47 := am A470
       clear A470
       by_cases c48 : 0 ≤ t101
       rotate_left
       ·
        rw [if_neg c48] at H
        exact absurd H (by simp)
       rw [if_pos c48] at H
       have c48b0 := eq_true c48
       have c48b1 : decide (0 ≤ t101) = true := decide_eq_true c48
       clear c48
       by_cases c49 : t101 ≤ (t121.length : Int)
       rotate_left
       ·
        rw [if_neg c49] at H
        exact absurd H (by simp)
       rw [if_pos c49] at H
       have c49b0 := eq_true c49
       have c49b1 : decide (t101 ≤ (t121.length : Int)) = true := decide_eq_true c49
       clear c49
       obtain ⟨y125, hy125⟩ : ∃ y_ : List Int, y_ = (t121.take (t101 : Int).toNat) := ⟨_, rfl⟩
       replace H : (some (y125, 0)) = some (r1, r2) := by first | (rw [hy125]; with_reducible exact H) | (have H2_ := (Option.bind_some _ _).symm.trans H; rw [hy125]; with_reducible exact H2_)
       have Ny125 := am hy125
       clear hy125
       simp only [Option.some.injEq, Prod.mk.injEq] at H
       obtain ⟨rfl, rfl⟩ := H
       obtain ⟨hcz50_0, hcz50_1, hfz50_0, hfz50_1⟩ := cells2 BK105.out
       go_wp2_with (first | ((with_reducible refine gate_callee (f := 39) rfl ?_); refine goesL_ (some 76) rfl rfl Try.func39 (by kernel_rfl) rfl #[.int .i64 x1_8, .int .i64 (wrap64 (8 * t101)), .bool t102] rfl (by simp only [ml]; try rfl) ?_; (with_reducible refine (leb_Fits.calls kj33 x1_8 (wrap64 (8 * t101)) t102 true _ A45.out).mono ?_); rintro e w' ⟨rfl, ⟨nd, rfl⟩⟩; refine ⟨_, rfl, ?_⟩) | ((with_reducible refine gate_callee (f := 40) rfl ?_); refine goesL_ (some 80) rfl rfl Try.func40 (by kernel_rfl) rfl #[.int .i64 x1_8, .int .i64 8] rfl (by simp only [ml]; try rfl) ?_; (with_reducible refine (leb_Put.calls kj33 x1_8 8 t121 t122 _ A47.out).mono ?_); rintro e w51 ⟨v123, rfl, ho0, hb⟩; refine ⟨_, rfl, ?_⟩; refine mv3 (am (Kd.R_lower ho0 (below_size (by exact bl_g HB.out)))) (am (blk_below (blk_o BK105.out) hb)) (am (below_step (by exact bl_g HB.out) hb)) ?_; clear BK105 HB; intro HO124 BK105 HB; obtain ⟨hcz52_0, hcz52_1, hfz52_0, hfz52_1⟩ := cells2 BK105.out; obtain ⟨Ao53, co53, eo53⟩ := Kd.R_slice HO124.out; subst eo53; have q54 : (t101 : Int) ≤ ((t121.length : Int) : Int) := od; obtain ⟨i054, hi054, _, hsz54, _⟩ := info_parts info5; have hcut54 := cut_to (P := Try.prog) 28 5 .i64 Try.underlying28 hi054 Ao53 t121.length co53 t101 (od) q54 (Kd.R_reads' HO124.out).2.1; have hr54 := Kd.R_take (m := (t101 : Int).toNat) HO124.out (by omega); have hy54 : y125.length = (t101 : Int).toNat := (by rw [Ny125.out, List.length_take]; omega); rw [← Ny125.out] at hr54; rw [← hy54] at hr54 hcut54; clear hy54 hi054 hsz54 HO124; have HO127 := am hr54; clear hr54; replace q54 := eq_true q54))
       go_ret2
       exact ⟨_, rfl, by (with_reducible repeat (first | apply Kd.R_alloc | apply Kd.R_drewN | apply Kd.R_drew)); exact HO127.out, by exact bl_g HB.out⟩
end Go.Proofs.Ytfgfnflhdabmcaa.G
end
section
namespace Go.Proofs.Ytfgfnflhdabmcaa.Bit
open Go.RowKit Go.Proofs.YtfgfnflhdabmcaaW.PrintWords Go.Proofs.YtfgfnflhdabmcaaW.PrintMore
theorem wrap_u64 (n : Int) : IntKind.u64.wrap n = n % 18446744073709551616 := IntKind.wrap_u64 n
theorem wrap64_id {n : Int} (h0 : -9223372036854775808 ≤ n) (h1 : n ≤ 9223372036854775807) : wrap64 n = n := by unfold wrap64; omega
theorem byte_all {P : Int → Prop} (h : ∀ i : Fin 256, P (i.val : Int)) (x : Int) (h0 : 0 ≤ x) (h1 : x < 256) : P x := by
  obtain ⟨n, rfl⟩ := Int.eq_ofNat_of_zero_le h0
  exact h ⟨n, by omega⟩
theorem b_or128 (x : Int) : Go.bits .or .u8 (x % 256) 128 = x % 128 + 128 := by
  have h := byte_all (P := fun y => Go.bits .or .u8 y 128 = y % 128 + 128) (by decide +kernel) (x % 256) (by omega) (by omega)
  rw [h]
  omega
theorem b_and127 (x : Int) : Go.bits .and .u8 (x % 256) 127 = x % 128 := by
  have h := byte_all (P := fun y => Go.bits .and .u8 y 127 = y % 128) (by decide +kernel) (x % 256) (by omega) (by omega)
  rw [h]
  omega
theorem ofInt_toNat (b : Nat) (x : Int) : ((BitVec.ofInt b x).toNat : Int) = x % (2 ^ b : Nat) := by
  rw [BitVec.toNat_ofInt]
  have : (0 : Int) ≤ x % (2 ^ b : Nat) := Int.emod_nonneg _ (by have := Nat.two_pow_pos b; omega)
  omega
theorem i64_mask (x : Int) (i : Nat) (hi : i ≤ 62) : Go.bits .and .i64 x (2 ^ i - 1) = x % 2 ^ i := by
  have hpos : 0 < 2 ^ i := Nat.two_pow_pos i
  have hle : 2 ^ i ≤ 2 ^ 62 := Nat.pow_le_pow_right (by decide) hi
  have h62 : (2 : Nat) ^ 62 = 4611686018427387904 := by decide
  have hc : ((2 : Int) ^ i - 1) = ((2 ^ i - 1 : Nat) : Int) := by rw [Int.natCast_sub hpos]; simp
  have e1 : (BitVec.ofInt 64 ((2 ^ i - 1 : Nat) : Int)).toNat = 2 ^ i - 1 := by
    rw [BitVec.ofInt_natCast, BitVec.toNat_ofNat]
    exact Nat.mod_eq_of_lt (by omega)
  show IntKind.i64.wrap ((BitVec.ofInt 64 x &&& BitVec.ofInt 64 (2 ^ i - 1)).toNat : Int) = _
  rw [hc, BitVec.toNat_and, e1, Nat.and_two_pow_sub_one_eq_mod]
  have e2 := ofInt_toNat 64 x
  have e3 : (((BitVec.ofInt 64 x).toNat % 2 ^ i : Nat) : Int) = x % 2 ^ i := by
    rw [Int.natCast_emod, e2]
    have hd : (2 ^ i : Int) ∣ ((2 ^ 64 : Nat) : Int) := ⟨2 ^ (64 - i), by
      rw [← Int.pow_add, show i + (64 - i) = 64 from by omega]
      rfl⟩
    have := Int.emod_emod_of_dvd x hd
    simpa using this
  rw [e3, IntKind.wrap_i64]
  have h0 : 0 ≤ x % 2 ^ i := Int.emod_nonneg _ (by have : (0 : Int) < 2 ^ i := by exact_mod_cast hpos
                                                   omega)
  have h1 : x % 2 ^ i < 2 ^ i := Int.emod_lt_of_pos _ (by exact_mod_cast hpos)
  have h2 : (2 : Int) ^ i ≤ 4611686018427387904 := by
    have : ((2 ^ i : Nat) : Int) ≤ ((2 ^ 62 : Nat) : Int) := by exact_mod_cast hle
    rw [h62] at this
    simpa using this
  omega
theorem w_and127 (x : Int) : Go.bits .and .i64 x 127 = x % 128 := i64_mask x 7 (by decide)
end Go.Proofs.Ytfgfnflhdabmcaa.Bit
end
section
namespace Go.Proofs.Ytfgfnflhdabmcaa.G
open Go.RowKit Go.Proofs.YtfgfnflhdabmcaaW.PrintWords Go.Proofs.YtfgfnflhdabmcaaW.PrintLast Go.Proofs.YtfgfnflhdabmcaaW.PrintMore
attribute [local go_sem] max2_int min2_int max_two min_two max_three min_three max_four min_four
def gangwayref01_Uleb.l0 : Nat → Int → List Int → Option (List Int)
  | 0, _, _ => none
  | k + 1, x3, x4 => if x3 ≥ 128 then (if x4.length < 140737488355328 then (gangwayref01_Uleb.l0 k (IntKind.u64.wrap (Int.tdiv x3 128)) (x4 ++ [((Int.tmod x3 128) + 128) % 256])) else (none)) else (if x4.length < 140737488355328 then (some (x4 ++ [(x3) % 256])) else (none))
def gangwayref01_Uleb.f (k : Nat) (a0 : Int) : Option (List Int) := gangwayref01_Uleb.l0 k (IntKind.u64.wrap (a0)) ([] : List Int)
set_option maxHeartbeats 8000000 in
theorem gangwayref01_Uleb.calls (k : Nat) (a0 : Int) (r : List Int) (w : World) (h : gangwayref01_Uleb.f k a0 = some r) :
    Calls Try.prog 44 #[.int .i64 a0] w fun e w' => ∃ v0_ : Value, e = .returned (v0_) ∧ Kd.R (Kd.int .u8) 5 w' w.heap.size (fun _ => True) v0_ r ∧ Below w.heap.size w w' := by
 have HB := am (Below.refl w.heap.size w)
 have H : (gangwayref01_Uleb.l0 k (IntKind.u64.wrap (a0)) ([] : List Int)) = some r := h
 clear h
 have H' := am H
 clear H
 go_enter Try.func44, Try.ntmps44
 go_wp2
 go_loopg [3, 4] k (fun kq v3 v4 w' => ∃ (x3_1 : Int) (x4_1 : List Int), v3 = .int .u64 x3_1 ∧ Aside0 (gangwayref01_Uleb.l0 kq x3_1 x4_1 = some r) ∧ Aside0 (kq ≤ k) ∧ Aside0 (Kd.R (Kd.int .u8) 5 w' w.heap.size (fun _ => True) v4 x4_1) ∧ Aside0 (Below w.heap.size w w'))
 case atStart => exact ⟨(IntKind.u64.wrap (a0)), (([] : List Int)), (by first | rfl | (simp; done) | (simp [*]; done)), H', ⟨Nat.le_refl _⟩, ⟨by first | exact Kd.R_nil _ _ _ _ _ | exact Kd.N_nil _ _ _ _ _⟩, ⟨by exact bl_g HB.out⟩⟩
 case round =>
  clear H'
  obtain ⟨x3_1, x4_1, rfl, HA, HK1, HO_4, HB⟩ := hrel
  cases gk with
  | zero => exact absurd HA.out (by simp [gangwayref01_Uleb.l0])
  | succ k1 =>
   have H := HA.out
   clear HA
   simp only [gangwayref01_Uleb.l0] at H
   by_cases c2 : x3_1 ≥ 128
   ·
    rw [if_pos c2] at H
    have c2b0 : decide (128 ≤ x3_1) = true := decide_eq_true c2
    clear c2
    by_cases c3 : x4_1.length < 140737488355328
    rotate_left
    ·
     rw [if_neg c3] at H
     exact absurd H (by simp)
    rw [if_pos c3] at H
    have LMc3 := am c3
    clear c3
    obtain ⟨y101, hy101⟩ : ∃ y_ : List Int, y_ = (x4_1 ++ [((Int.tmod x3_1 128) + 128) % 256]) := ⟨_, rfl⟩
    replace H : (gangwayref01_Uleb.l0 k1 (IntKind.u64.wrap (Int.tdiv x3_1 128)) y101) = some r := by first | (rw [hy101]; with_reducible exact H) | (have H2_ := (Option.bind_some _ _).symm.trans H; rw [hy101]; with_reducible exact H2_)
    have Ny101 := am hy101
    clear hy101
    have H' := am H
    clear H
    go_wp2_with (first | ((with_reducible refine gate_builtin (b := .append) (xs := #[.tmp 9, .tmp 14]) rfl ?_); at_builtin; refine Kd.R_append (Kd.int .u8) (w0 := w) w.heap.size rfl (.tmp 9) (.tmp 14) 28 5 (.int .u8 0) 1 rfl Try.underlying28 info5 rfl (by decide) (by omega) u4 x4_1 (((Int.tmod x3_1 128) + 128) % 256) [.int .u8 (((Int.tmod x3_1 128) + 128) % 256)] (fun _ => True) (fun _ => False) rfl rfl ?aP (fun _ hk => hk.elim) ?aF ?aO ?aB ?aS ?aL ?_; (case aP => exact rfl); (case aB => exact (by exact bl_o HB.out)); (case aF => exact (fun _ _ => trivial)); (case aO => exact (Kd.R_o HO_4.out)); (case aS => exact (below_size (by exact bl_o HB.out))); (case aL => have := LMc3.out; omega); intro v102 w4 ho hb hg hat; rw [← Ny101.out] at ho; refine mv2 (am (hb)) (am (ho)) ?_; clear HB HO_4; intro HB HO103; clear ho hb hg hat))
    go_roundg k1
    case measure => have := HK1.out; omega
    case rel => exact ⟨(IntKind.u64.wrap (Int.tdiv x3_1 128)), (y101), (by first | rfl | (simp; done) | (simp [*]; done)), H', ⟨by have := HK1.out; omega⟩, ⟨by (with_reducible repeat (first | apply Kd.R_alloc | apply Kd.R_drewN | apply Kd.R_drew)); exact HO103.out⟩, ⟨by exact bl_g HB.out⟩⟩
   rw [if_neg c2] at H
   have c2b0 : decide (128 ≤ x3_1) = false := decide_eq_false c2
   clear c2
   by_cases c5 : x4_1.length < 140737488355328
   rotate_left
   ·
    rw [if_neg c5] at H
    exact absurd H (by simp)
   rw [if_pos c5] at H
   have LMc5 := am c5
   clear c5
   obtain ⟨y104, hy104⟩ : ∃ y_ : List Int, y_ = (x4_1 ++ [(x3_1) % 256]) := ⟨_, rfl⟩
   replace H : (some y104) = some r := by first | (rw [hy104]; with_reducible exact H) | (have H2_ := (Option.bind_some _ _).symm.trans H; rw [hy104]; with_reducible exact H2_)
   have Ny104 := am hy104
   clear hy104
   obtain rfl := Option.some.inj H
   go_wp2_with (first | ((with_reducible refine gate_builtin (b := .append) (xs := #[.tmp 18, .tmp 21]) rfl ?_); at_builtin; refine Kd.R_append (Kd.int .u8) (w0 := w) w.heap.size rfl (.tmp 18) (.tmp 21) 28 5 (.int .u8 0) 1 rfl Try.underlying28 info5 rfl (by decide) (by omega) u4 x4_1 ((x3_1) % 256) [.int .u8 ((x3_1) % 256)] (fun _ => True) (fun _ => False) rfl rfl ?aP (fun _ hk => hk.elim) ?aF ?aO ?aB ?aS ?aL ?_; (case aP => exact rfl); (case aB => exact (by exact bl_o HB.out)); (case aF => exact (fun _ _ => trivial)); (case aO => exact (Kd.R_o HO_4.out)); (case aS => exact (below_size (by exact bl_o HB.out))); (case aL => have := LMc5.out; omega); intro v105 w6 ho hb hg hat; rw [← Ny104.out] at ho; refine mv2 (am (hb)) (am (ho)) ?_; clear HB HO_4; intro HB HO106; clear ho hb hg hat))
   go_ret
   exact ⟨_, rfl, by (with_reducible repeat (first | apply Kd.R_alloc | apply Kd.R_drewN | apply Kd.R_drew)); exact HO106.out, by exact bl_g HB.out⟩
def gangwayref01_Sleb.l0 : Nat → Int → List Int → Option (List Int)
  | 0, _, _ => none
  | k + 1, x0, x3 => if x0 < (-64) then (if x3.length < 140737488355328 then (gangwayref01_Sleb.l0 k (x0 / 128) (x3 ++ [((Go.bits .and .i64 x0 127) + 128) % 256])) else (none)) else (if x0 > 63 then (if x3.length < 140737488355328 then (gangwayref01_Sleb.l0 k (x0 / 128) (x3 ++ [((Go.bits .and .i64 x0 127) + 128) % 256])) else (none)) else (if x3.length < 140737488355328 then (some (x3 ++ [(Go.bits .and .i64 x0 127) % 256])) else (none)))
def gangwayref01_Sleb.f (k : Nat) (a0 : Int) : Option (List Int) := gangwayref01_Sleb.l0 k a0 ([] : List Int)
set_option maxHeartbeats 8000000 in
theorem gangwayref01_Sleb.calls (k : Nat) (a0 : Int) (r : List Int) (w : World) (h : gangwayref01_Sleb.f k a0 = some r) :
    Calls Try.prog 45 #[.int .i64 a0] w fun e w' => ∃ v0_ : Value, e = .returned (v0_) ∧ Kd.R (Kd.int .u8) 5 w' w.heap.size (fun _ => True) v0_ r ∧ Below w.heap.size w w' := by
 have HB := am (Below.refl w.heap.size w)
 have H : (gangwayref01_Sleb.l0 k a0 ([] : List Int)) = some r := h
 clear h
 have H' := am H
 clear H
 go_enter Try.func45, Try.ntmps45
 go_wp2
 go_loopg [0, 3] k (fun kq v0 v3 w' => ∃ (x0_1 : Int) (x3_1 : List Int), v0 = .int .i64 x0_1 ∧ Aside0 (gangwayref01_Sleb.l0 kq x0_1 x3_1 = some r) ∧ Aside0 (kq ≤ k) ∧ Aside0 (Kd.R (Kd.int .u8) 5 w' w.heap.size (fun _ => True) v3 x3_1) ∧ Aside0 (Below w.heap.size w w'))
 case atStart => exact ⟨(a0), (([] : List Int)), (by first | rfl | (simp; done) | (simp [*]; done)), H', ⟨Nat.le_refl _⟩, ⟨by first | exact Kd.R_nil _ _ _ _ _ | exact Kd.N_nil _ _ _ _ _⟩, ⟨by exact bl_g HB.out⟩⟩
 case round =>
  clear H'
  obtain ⟨x0_1, x3_1, rfl, HA, HK1, HO_3, HB⟩ := hrel
  cases gk with
  | zero => exact absurd HA.out (by simp [gangwayref01_Sleb.l0])
  | succ k1 =>
   have H := HA.out
   clear HA
   simp only [gangwayref01_Sleb.l0] at H
   by_cases c2 : x0_1 < (-64)
   ·
    rw [if_pos c2] at H
    have c2b0 : decide (x0_1 < (-64)) = true := decide_eq_true c2
    clear c2
    by_cases c3 : x3_1.length < 140737488355328
    rotate_left
    ·
     rw [if_neg c3] at H
     exact absurd H (by simp)
    rw [if_pos c3] at H
    have LMc3 := am c3
    clear c3
    obtain ⟨y101, hy101⟩ : ∃ y_ : List Int, y_ = (x3_1 ++ [((Go.bits .and .i64 x0_1 127) + 128) % 256]) := ⟨_, rfl⟩
    replace H : (gangwayref01_Sleb.l0 k1 (x0_1 / 128) y101) = some r := by first | (rw [hy101]; with_reducible exact H) | (have H2_ := (Option.bind_some _ _).symm.trans H; rw [hy101]; with_reducible exact H2_)
    have Ny101 := am hy101
    clear hy101
    have H' := am H
    clear H
    go_wp2_with (first | ((with_reducible refine gate_builtin (b := .append) (xs := #[.tmp 10, .tmp 15]) rfl ?_); at_builtin; refine Kd.R_append (Kd.int .u8) (w0 := w) w.heap.size rfl (.tmp 10) (.tmp 15) 28 5 (.int .u8 0) 1 rfl Try.underlying28 info5 rfl (by decide) (by omega) u3 x3_1 (((Go.bits .and .i64 x0_1 127) + 128) % 256) [.int .u8 (((Go.bits .and .i64 x0_1 127) + 128) % 256)] (fun _ => True) (fun _ => False) rfl rfl ?aP (fun _ hk => hk.elim) ?aF ?aO ?aB ?aS ?aL ?_; (case aP => exact rfl); (case aB => exact (by exact bl_o HB.out)); (case aF => exact (fun _ _ => trivial)); (case aO => exact (Kd.R_o HO_3.out)); (case aS => exact (below_size (by exact bl_o HB.out))); (case aL => have := LMc3.out; omega); intro v102 w4 ho hb hg hat; rw [← Ny101.out] at ho; refine mv2 (am (hb)) (am (ho)) ?_; clear HB HO_3; intro HB HO103; clear ho hb hg hat))
    go_roundg k1
    case measure => have := HK1.out; omega
    case rel => exact ⟨(x0_1 / 128), (y101), (by first | rfl | (simp; done) | (simp [*]; done)), H', ⟨by have := HK1.out; omega⟩, ⟨by (with_reducible repeat (first | apply Kd.R_alloc | apply Kd.R_drewN | apply Kd.R_drew)); exact HO103.out⟩, ⟨by exact bl_g HB.out⟩⟩
   rw [if_neg c2] at H
   have c2b0 : decide (x0_1 < (-64)) = false := decide_eq_false c2
   clear c2
   by_cases c5 : x0_1 > 63
   ·
    rw [if_pos c5] at H
    have c5b0 : decide (63 < x0_1) = true := decide_eq_true c5
    clear c5
    by_cases c6 : x3_1.length < 140737488355328
    rotate_left
    ·
     rw [if_neg c6] at H
     exact absurd H (by simp)
    rw [if_pos c6] at H
    have LMc6 := am c6
    clear c6
    obtain ⟨y104, hy104⟩ : ∃ y_ : List Int, y_ = (x3_1 ++ [((Go.bits .and .i64 x0_1 127) + 128) % 256]) := ⟨_, rfl⟩
    replace H : (gangwayref01_Sleb.l0 k1 (x0_1 / 128) y104) = some r := by first | (rw [hy104]; with_reducible exact H) | (have H2_ := (Option.bind_some _ _).symm.trans H; rw [hy104]; with_reducible exact H2_)
    have Ny104 := am hy104
    clear hy104
    have H' := am H
    clear H
    go_wp2_with (first | ((with_reducible refine gate_builtin (b := .append) (xs := #[.tmp 10, .tmp 15]) rfl ?_); at_builtin; refine Kd.R_append (Kd.int .u8) (w0 := w) w.heap.size rfl (.tmp 10) (.tmp 15) 28 5 (.int .u8 0) 1 rfl Try.underlying28 info5 rfl (by decide) (by omega) u3 x3_1 (((Go.bits .and .i64 x0_1 127) + 128) % 256) [.int .u8 (((Go.bits .and .i64 x0_1 127) + 128) % 256)] (fun _ => True) (fun _ => False) rfl rfl ?aP (fun _ hk => hk.elim) ?aF ?aO ?aB ?aS ?aL ?_; (case aP => exact rfl); (case aB => exact (by exact bl_o HB.out)); (case aF => exact (fun _ _ => trivial)); (case aO => exact (Kd.R_o HO_3.out)); (case aS => exact (below_size (by exact bl_o HB.out))); (case aL => have := LMc6.out; omega); intro v105 w7 ho hb hg hat; rw [← Ny104.out] at ho; refine mv2 (am (hb)) (am (ho)) ?_; clear HB HO_3; intro HB HO106; clear ho hb hg hat))
    go_roundg k1
    case measure => have := HK1.out; omega
    case rel => exact ⟨(x0_1 / 128), (y104), (by first | rfl | (simp; done) | (simp [*]; done)), H', ⟨by have := HK1.out; omega⟩, ⟨by (with_reducible repeat (first | apply Kd.R_alloc | apply Kd.R_drewN | apply Kd.R_drew)); exact HO106.out⟩, ⟨by exact bl_g HB.out⟩⟩
   rw [if_neg c5] at H
   have c5b0 : decide (63 < x0_1) = false := decide_eq_false c5
   clear c5
   by_cases c8 : x3_1.length < 140737488355328
   rotate_left
   ·
    rw [if_neg c8] at H
    exact absurd H (by simp)
   rw [if_pos c8] at H
   have LMc8 := am c8
   clear c8
   obtain ⟨y107, hy107⟩ : ∃ y_ : List Int, y_ = (x3_1 ++ [(Go.bits .and .i64 x0_1 127) % 256]) := ⟨_, rfl⟩
   replace H : (some y107) = some r := by first | (rw [hy107]; with_reducible exact H) | (have H2_ := (Option.bind_some _ _).symm.trans H; rw [hy107]; with_reducible exact H2_)
   have Ny107 := am hy107
   clear hy107
   obtain rfl := Option.some.inj H
   go_wp2_with (first | ((with_reducible refine gate_builtin (b := .append) (xs := #[.tmp 19, .tmp 23]) rfl ?_); at_builtin; refine Kd.R_append (Kd.int .u8) (w0 := w) w.heap.size rfl (.tmp 19) (.tmp 23) 28 5 (.int .u8 0) 1 rfl Try.underlying28 info5 rfl (by decide) (by omega) u3 x3_1 ((Go.bits .and .i64 x0_1 127) % 256) [.int .u8 ((Go.bits .and .i64 x0_1 127) % 256)] (fun _ => True) (fun _ => False) rfl rfl ?aP (fun _ hk => hk.elim) ?aF ?aO ?aB ?aS ?aL ?_; (case aP => exact rfl); (case aB => exact (by exact bl_o HB.out)); (case aF => exact (fun _ _ => trivial)); (case aO => exact (Kd.R_o HO_3.out)); (case aS => exact (below_size (by exact bl_o HB.out))); (case aL => have := LMc8.out; omega); intro v108 w9 ho hb hg hat; rw [← Ny107.out] at ho; refine mv2 (am (hb)) (am (ho)) ?_; clear HB HO_3; intro HB HO109; clear ho hb hg hat))
   go_ret
   exact ⟨_, rfl, by (with_reducible repeat (first | apply Kd.R_alloc | apply Kd.R_drewN | apply Kd.R_drew)); exact HO109.out, by exact bl_g HB.out⟩
end Go.Proofs.Ytfgfnflhdabmcaa.G
end
section
namespace Go.Proofs.Ytfgfnflhdabmcaa.Leb
open Go.RowKit Go.Proofs.Ytfgfnflhdabmcaa.G Go.Proofs.YtfgfnflhdabmcaaW.PrintWords Go.Proofs.YtfgfnflhdabmcaaW.PrintLast Go.Proofs.YtfgfnflhdabmcaaW.PrintMore Go.Proofs.Ytfgfnflhdabmcaa.Bit
def ulebL (u : Nat) : List Int := if h : 127 < u then ((u % 128 + 128 : Nat) : Int) :: ulebL (u / 128) else [(u : Int)]
termination_by u
decreasing_by omega
def slebL (n : Int) : List Int := if h : n < -64 ∨ 63 < n then (n % 128 + 128) :: slebL (n / 128) else [n % 128]
termination_by n.natAbs
decreasing_by omega
theorem ulebL_big {u : Nat} (h : 127 < u) : ulebL u = ((u % 128 + 128 : Nat) : Int) :: ulebL (u / 128) := by rw [ulebL, dif_pos h]
theorem ulebL_small {u : Nat} (h : ¬ 127 < u) : ulebL u = [(u : Int)] := by rw [ulebL, dif_neg h]
theorem slebL_big {n : Int} (h : n < -64 ∨ 63 < n) : slebL n = (n % 128 + 128) :: slebL (n / 128) := by rw [slebL, dif_pos h]
theorem slebL_small {n : Int} (h : ¬ (n < -64 ∨ 63 < n)) : slebL n = [n % 128] := by rw [slebL, dif_neg h]
theorem uleb_l0 (d : Nat) : ∀ (k u : Nat) (acc : List Int), u < 128 ^ (d + 1) → d < k → acc.length + d ≤ 1000 → leb_Uleb.l0 k acc (u : Int) = some (acc ++ ulebL u) := by
  induction d with
  | zero =>
    intro k u acc hu hk ha
    obtain ⟨k, rfl⟩ : ∃ m, k = m + 1 := ⟨k - 1, by omega⟩
    have hu' : u < 128 := by simpa using hu
    simp only [leb_Uleb.l0]
    rw [if_neg (by omega), if_pos (by omega), ulebL_small (by omega), show ((u : Int)) % 256 = u from by omega]
  | succ d ih =>
    intro k u acc hu hk ha
    obtain ⟨k, rfl⟩ : ∃ m, k = m + 1 := ⟨k - 1, by omega⟩
    simp only [leb_Uleb.l0]
    by_cases h : 127 < u
    · rw [if_pos (by omega), if_pos (by omega), b_or128]
      have hd : u / 128 < 128 ^ (d + 1) := by rw [Nat.pow_succ] at hu; omega
      have := ih k (u / 128) (acc ++ [((u % 128 + 128 : Nat) : Int)]) hd (by omega) (by simp; omega)
      rw [show ((u : Int)) % 128 + 128 = ((u % 128 + 128 : Nat) : Int) from by omega, show ((u : Int)) / 128 = ((u / 128 : Nat) : Int) from by omega, this, ulebL_big h]
      simp
    · rw [if_neg (by omega), if_pos (by omega), ulebL_small h, show ((u : Int)) % 256 = u from by omega]
theorem uleb_f (a : Int) (k : Nat) (hk : 10 ≤ k) : leb_Uleb.f k a = some (ulebL (a % 18446744073709551616).toNat) := by
  unfold leb_Uleb.f
  have h0 : 0 ≤ a % 18446744073709551616 := by omega
  obtain ⟨u, hu⟩ := Int.eq_ofNat_of_zero_le h0
  rw [wrap_u64, hu, uleb_l0 9 k u [] (by have : (128 : Nat) ^ (9 + 1) = 1180591620717411303424 := by decide
                                         omega) (by omega) (by simp)]
  simp
theorem ruleb_l0 (d : Nat) : ∀ (k u : Nat) (acc : List Int), u < 128 ^ (d + 1) → u < 18446744073709551616 → d < k → acc.length + d ≤ 1000 → gangwayref01_Uleb.l0 k (u : Int) acc = some (acc ++ ulebL u) := by
  induction d with
  | zero =>
    intro k u acc hu _ hk ha
    obtain ⟨k, rfl⟩ : ∃ m, k = m + 1 := ⟨k - 1, by omega⟩
    have hu' : u < 128 := by simpa using hu
    simp only [gangwayref01_Uleb.l0]
    rw [if_neg (by omega), if_pos (by omega), ulebL_small (by omega), show ((u : Int)) % 256 = u from by omega]
  | succ d ih =>
    intro k u acc hu hu2 hk ha
    obtain ⟨k, rfl⟩ : ∃ m, k = m + 1 := ⟨k - 1, by omega⟩
    simp only [gangwayref01_Uleb.l0]
    by_cases h : 127 < u
    · have e1 : Int.tdiv (u : Int) 128 = ((u / 128 : Nat) : Int) := by rw [Int.tdiv_eq_ediv_of_nonneg (by omega)]; omega
      have e2 : Int.tmod (u : Int) 128 = ((u % 128 : Nat) : Int) := by rw [Int.tmod_eq_emod_of_nonneg (by omega)]; omega
      rw [if_pos (by omega), if_pos (by omega), e1, e2, wrap_u64]
      have hd : u / 128 < 128 ^ (d + 1) := by rw [Nat.pow_succ] at hu; omega
      have := ih k (u / 128) (acc ++ [((u % 128 + 128 : Nat) : Int)]) hd (by omega) (by omega) (by simp; omega)
      rw [show (((u % 128 : Nat) : Int) + 128) % 256 = ((u % 128 + 128 : Nat) : Int) from by omega, show ((u / 128 : Nat) : Int) % 18446744073709551616 = ((u / 128 : Nat) : Int) from by omega, this, ulebL_big h]
      simp
    · rw [if_neg (by omega), if_pos (by omega), ulebL_small h, show ((u : Int)) % 256 = u from by omega]
theorem ruleb_f (a : Int) (k : Nat) (hk : 10 ≤ k) : gangwayref01_Uleb.f k a = some (ulebL (a % 18446744073709551616).toNat) := by
  unfold gangwayref01_Uleb.f
  have h0 : 0 ≤ a % 18446744073709551616 := by omega
  obtain ⟨u, hu⟩ := Int.eq_ofNat_of_zero_le h0
  rw [wrap_u64, hu, ruleb_l0 9 k u [] (by have : (128 : Nat) ^ (9 + 1) = 1180591620717411303424 := by decide
                                          omega) (by omega) (by omega) (by simp)]
  simp
theorem sleb_l0 (d : Nat) : ∀ (k : Nat) (n : Int) (acc : List Int), -(64 * 128 ^ d : Int) ≤ n → n < 64 * 128 ^ d → d < k → acc.length + d ≤ 1000 → leb_Sleb.l0 k n acc = some (acc ++ slebL n) := by
  induction d with
  | zero =>
    intro k n acc h0 h1 hk ha
    obtain ⟨k, rfl⟩ : ∃ m, k = m + 1 := ⟨k - 1, by omega⟩
    simp only [leb_Sleb.l0]
    rw [if_neg (by simp at h0; omega), if_neg (by simp at h1; omega), if_pos (by omega), slebL_small (by simp at h0 h1; omega), b_and127]
  | succ d ih =>
    intro k n acc h0 h1 hk ha
    obtain ⟨k, rfl⟩ : ∃ m, k = m + 1 := ⟨k - 1, by omega⟩
    simp only [leb_Sleb.l0]
    by_cases h : n < -64 ∨ 63 < n
    · have hp : (128 : Int) ^ (d + 1) = 128 ^ d * 128 := Int.pow_succ _ _
      have hi := ih k (n / 128) (acc ++ [n % 128 + 128]) (by rw [hp] at h0; omega) (by rw [hp] at h1; omega) (by omega) (by simp; omega)
      simp only [List.append_assoc, List.singleton_append] at hi
      by_cases c : n < -64
      · rw [if_pos c, if_pos (show acc.length < 140737488355328 by omega), b_or128, hi, slebL_big h]
      · rw [if_neg c, if_pos (show n > 63 by omega), if_pos (show acc.length < 140737488355328 by omega), b_or128, hi, slebL_big h]
    · rw [if_neg (by omega), if_neg (by omega), if_pos (by omega), slebL_small h, b_and127]
theorem sleb_f (a : Int) (h0 : -9223372036854775808 ≤ a) (h1 : a ≤ 9223372036854775807) (k : Nat) (hk : 10 ≤ k) : leb_Sleb.f k a = some (slebL a) := by
  unfold leb_Sleb.f
  rw [sleb_l0 9 k a [] (by have : (128 : Int) ^ 9 = 9223372036854775808 := by decide
                           omega) (by have : (128 : Int) ^ 9 = 9223372036854775808 := by decide
                                      omega) (by omega) (by simp)]
  simp
theorem rsleb_l0 (d : Nat) : ∀ (k : Nat) (n : Int) (acc : List Int), -(64 * 128 ^ d : Int) ≤ n → n < 64 * 128 ^ d → d < k → acc.length + d ≤ 1000 → gangwayref01_Sleb.l0 k n acc = some (acc ++ slebL n) := by
  induction d with
  | zero =>
    intro k n acc h0 h1 hk ha
    obtain ⟨k, rfl⟩ : ∃ m, k = m + 1 := ⟨k - 1, by omega⟩
    simp only [gangwayref01_Sleb.l0]
    rw [if_neg (by simp at h0; omega), if_neg (by simp at h1; omega), if_pos (by omega), slebL_small (by simp at h0 h1; omega), w_and127, show n % 128 % 256 = n % 128 from by omega]
  | succ d ih =>
    intro k n acc h0 h1 hk ha
    obtain ⟨k, rfl⟩ : ∃ m, k = m + 1 := ⟨k - 1, by omega⟩
    simp only [gangwayref01_Sleb.l0]
    by_cases h : n < -64 ∨ 63 < n
    · have hp : (128 : Int) ^ (d + 1) = 128 ^ d * 128 := Int.pow_succ _ _
      have hi := ih k (n / 128) (acc ++ [n % 128 + 128]) (by rw [hp] at h0; omega) (by rw [hp] at h1; omega) (by omega) (by simp; omega)
      simp only [List.append_assoc, List.singleton_append] at hi
      by_cases c : n < -64
      · rw [if_pos c, if_pos (show acc.length < 140737488355328 by omega), w_and127, show (n % 128 + 128) % 256 = n % 128 + 128 from by omega, hi, slebL_big h]
      · rw [if_neg c, if_pos (show n > 63 by omega), if_pos (show acc.length < 140737488355328 by omega), w_and127, show (n % 128 + 128) % 256 = n % 128 + 128 from by omega, hi, slebL_big h]
    · rw [if_neg (by omega), if_neg (by omega), if_pos (by omega), slebL_small h, w_and127, show n % 128 % 256 = n % 128 from by omega]
theorem rsleb_f (a : Int) (h0 : -9223372036854775808 ≤ a) (h1 : a ≤ 9223372036854775807) (k : Nat) (hk : 10 ≤ k) : gangwayref01_Sleb.f k a = some (slebL a) := by
  unfold gangwayref01_Sleb.f
  rw [rsleb_l0 9 k a [] (by have : (128 : Int) ^ 9 = 9223372036854775808 := by decide
                            omega) (by have : (128 : Int) ^ 9 = 9223372036854775808 := by decide
                                       omega) (by omega) (by simp)]
  simp
end Go.Proofs.Ytfgfnflhdabmcaa.Leb
end
section
namespace Go.Proofs.Ytfgfnflhdabmcaa.G
open Go.RowKit Go.Proofs.YtfgfnflhdabmcaaW.PrintWords Go.Proofs.YtfgfnflhdabmcaaW.PrintLast Go.Proofs.YtfgfnflhdabmcaaW.PrintMore
attribute [local go_sem] max2_int min2_int max_two min_two max_three min_three max_four min_four
def cfa_put.l0 : Nat → List Int → List (List Int) → Int → Int → Option (List Int)
  | 0, _, _, _, _ => none
  | k + 1, x0, x7, x8, x9 => if x9 < x8 then (if 0 ≤ x9 then (if x9 < (x7.length : Int) then (if x0.length + (rd_L12 x7 x9).length < 140737488355328 then (cfa_put.l0 k (x0 ++ (rd_L12 x7 x9)) x7 x8 (wrap64 (x9 + 1))) else (none)) else (none)) else (none)) else (some x0)
def cfa_put.f (k : Nat) (l0 : List Int) (l1 : List (List Int)) : Option (List Int) := cfa_put.l0 k l0 l1 (l1.length : Int) 0
set_option maxHeartbeats 8000000 in
theorem cfa_put.calls (k : Nat) (P0_ : Nat → Prop) (u9000_ : Value) (l0 : List Int) (A1 : Option Addr) (c1 : Nat) (l1 : List (List Int)) (r : List Int) (w0 w : World) (hB : Below w0.heap.size w0 w) (ho0 : Kd.R (Kd.int .u8) 5 w w0.heap.size P0_ u9000_ l0) (hr1 : ∀ W_, Kept w W_ (fun k_ => P0_ k_) → Kd.C (Kd.slice 5 (Kd.int .u8)) W_ A1 l1.length l1) (hc1 : l1.length ≤ c1) (h : cfa_put.f k l0 l1 = some r) :
    Calls Try.prog 79 #[u9000_, .slice A1 l1.length c1] w fun e w' => ∃ v0_ : Value, e = .returned (v0_) ∧ Kd.R (Kd.int .u8) 5 w' w0.heap.size (fun k_ => (P0_ k_ ∨ w.heap.size ≤ k_)) v0_ r ∧ Below w0.heap.size w0 w' ∧ Kept w w' (fun k_ => P0_ k_) := by
 have HO0 := am (show Kd.R (Kd.int .u8) 5 w w0.heap.size (fun k_ => (P0_ k_ ∨ w.heap.size ≤ k_)) u9000_ l0 from Kd.R_mono ho0 (fun k_ hk => (.inl hk)))
 have HR1 := am hr1
 have HC1 := am hc1
 clear hr1 hc1
 have HK := am (Kept.refl w (fun k_ => P0_ k_))
 have HW0 := am hB.size
 have HB := am hB
 clear hB
 have H : (cfa_put.l0 k l0 l1 (l1.length : Int) 0) = some r := h
 clear h
 have H' := am H
 clear H
 go_enter Try.func79, Try.ntmps79
 go_wp2
 go_loopg [0, 9] k (fun kq v0 v9 w' => ∃ (x0_1 : List Int) (x9_1 : Int), v9 = .int .i64 x9_1 ∧ Aside0 (cfa_put.l0 kq x0_1 l1 (l1.length : Int) x9_1 = some r) ∧ Aside0 (kq ≤ k) ∧ Aside0 (Kd.R (Kd.int .u8) 5 w' w0.heap.size (fun k_ => (P0_ k_ ∨ w.heap.size ≤ k_)) v0 x0_1) ∧ Aside0 (Kept w w' (fun k_ => P0_ k_)) ∧ Aside0 (Below w0.heap.size w0 w'))
 case atStart => exact ⟨(l0), (0), (by first | rfl | (simp; done) | (simp [*]; done)), H', ⟨Nat.le_refl _⟩, ⟨by (with_reducible repeat (first | apply Kd.R_alloc | apply Kd.R_drewN | apply Kd.R_drew)); exact HO0.out⟩, ⟨by repeat (first | (with_reducible first | exact HK.out | apply Kept.alloc | apply Kept.drewN | apply Kept.drew) | exact HK.out)⟩, ⟨by exact bl_g HB.out⟩⟩
 case round =>
  clear H'
  try clear c1
  try clear p2
  obtain ⟨x0_1, x9_1, rfl, HA, HK1, HO_0, HK, HB⟩ := hrel
  cases gk with
  | zero => exact absurd HA.out (by simp [cfa_put.l0])
  | succ k1 =>
   have H := HA.out
   clear HA
   simp only [cfa_put.l0] at H
   by_cases c3 : x9_1 < (l1.length : Int)
   rotate_left
   ·
    rw [if_neg c3] at H
    have c3b0 : decide (x9_1 < (l1.length : Int)) = false := decide_eq_false c3
    clear c3
    obtain rfl := Option.some.inj H
    go_wp2
    go_ret
    exact ⟨_, rfl, by (with_reducible repeat (first | apply Kd.R_alloc | apply Kd.R_drewN | apply Kd.R_drew)); exact HO_0.out, by exact bl_g HB.out, by repeat (first | (with_reducible first | exact HK.out | apply Kept.alloc | apply Kept.drewN | apply Kept.drew) | exact HK.out)⟩
   rw [if_pos c3] at H
   have c3b0 : decide (x9_1 < (l1.length : Int)) = true := decide_eq_true c3
   clear c3
   by_cases c4 : 0 ≤ x9_1
   rotate_left
   ·
    rw [if_neg c4] at H
    exact absurd H (by simp)
   rw [if_pos c4] at H
   have c4b0 : decide (0 ≤ x9_1) = true := decide_eq_true c4
   clear c4
   by_cases c5 : x9_1 < (l1.length : Int)
   rotate_left
   ·
    rw [if_neg c5] at H
    exact absurd H (by simp)
   rw [if_pos c5] at H
   have c5b0 : decide (x9_1 < (l1.length : Int)) = true := decide_eq_true c5
   clear c5
   by_cases c6 : x0_1.length + (rd_L12 l1 x9_1).length < 140737488355328
   rotate_left
   ·
    rw [if_neg c6] at H
    exact absurd H (by simp)
   rw [if_pos c6] at H
   have LMc6 := am c6
   clear c6
   obtain ⟨y102, hy102⟩ : ∃ y_ : List Int, y_ = (x0_1 ++ (rd_L12 l1 x9_1)) := ⟨_, rfl⟩
   replace H : (cfa_put.l0 k1 y102 l1 (l1.length : Int) (wrap64 (x9_1 + 1))) = some r := by first | (rw [hy102]; with_reducible exact H) | (have H2_ := (Option.bind_some _ _).symm.trans H; rw [hy102]; with_reducible exact H2_)
   have Ny102 := am hy102
   clear hy102
   have H' := am H
   clear H
   have p101 : 0 ≤ (x9_1 : Int) := od
   have q101 : x9_1 < (l1.length : Int) := od
   obtain ⟨ad101, A101_0, c101_0, e101, hx101_0, hl101_0, hi101_0⟩ := at_L12 (Kd.C_kept_now HR1.out HK.out) x9_1 p101 q101
   cases e101
   have HR101_0 := am hi101_0
   have HC101_0 := am hl101_0
   clear hi101_0 hl101_0
   replace p101 := eq_true p101
   replace q101 := eq_true q101
   go_wp2_with (first | ((with_reducible refine gate_builtin (b := .append) (xs := #[.tmp 13, .tmp 14]) rfl ?_); at_builtin; refine Kd.R_append_rows (Kd.int .u8) (w0 := w0) w0.heap.size rfl (.tmp 13) (.tmp 14) 28 5 (.int .u8 0) 1 rfl Try.underlying28 info5 rfl (by decide) (by omega) u0 x0_1 (rd_L12 l1 x9_1) _ _ _ (fun k_ => (P0_ k_ ∨ w.heap.size ≤ k_)) (fun _ => False) rfl rfl ?aO ?aR (fun _ _ h => h) (fun _ h => h.elim) ?aF ?aB ?aS ?aL ?_; (case aR => repeat (first | exact (by repeat (first | (with_reducible exact HR101_0.out) | (with_reducible refine Kd.C_alloc ?_ _) | (with_reducible refine Kd.C_drewN ?_ _) | (with_reducible refine Kd.C_drew ?_) | exact HR101_0.out)) | (with_reducible refine Kd.C_alloc ?_ _) | (with_reducible refine Kd.C_drewN ?_ _) | (with_reducible refine Kd.C_drew ?_))); (case aB => exact (by exact bl_o HB.out)); (case aF => exact (fun k_ hk => (.inr (Nat.le_trans (by first | exact HK.out.1 | exact (show Kept w _ (fun k_ => P0_ k_) from by repeat (first | (with_reducible first | exact HK.out | apply Kept.alloc | apply Kept.drewN | apply Kept.drew) | exact HK.out)).1) hk)))); (case aO => exact (Kd.R_o HO_0.out)); (case aS => exact (below_size (by exact bl_o HB.out))); (case aL => have := LMc6.out; omega); intro v103 w7 ho hb hg hat; rw [← Ny102.out] at ho; refine mv3 (am (hb)) (am (Kept.of_grown (S := (fun k_ => P0_ k_)) hg (by repeat (first | (with_reducible first | exact HK.out | apply Kept.alloc | apply Kept.drewN | apply Kept.drew) | exact HK.out)) (fun k_ e_ => (HO_0.out.1 k_ e_)))) (am (ho)) ?_; clear HB HK HO_0; intro HB HK HO104; clear ho hb hg hat))
   go_roundg k1
   case measure => have := HK1.out; omega
   case rel => exact ⟨(y102), (wrap64 (x9_1 + 1)), (by first | rfl | (simp; done) | (simp [*]; done)), H', ⟨by have := HK1.out; omega⟩, ⟨by (with_reducible repeat (first | apply Kd.R_alloc | apply Kd.R_drewN | apply Kd.R_drew)); exact HO104.out⟩, ⟨by repeat (first | (with_reducible first | exact HK.out | apply Kept.alloc | apply Kept.drewN | apply Kept.drew) | exact HK.out)⟩, ⟨by exact bl_g HB.out⟩⟩
end Go.Proofs.Ytfgfnflhdabmcaa.G
end
section
namespace Go.Proofs.Ytfgfnflhdabmcaa.CfaB
open Go.RowKit Go.Proofs.Ytfgfnflhdabmcaa.G Go.Proofs.YtfgfnflhdabmcaaW.PrintWords Go.Proofs.YtfgfnflhdabmcaaW.PrintLast Go.Proofs.YtfgfnflhdabmcaaW.PrintMore Go.Proofs.Ytfgfnflhdabmcaa.Bit Go.Proofs.Ytfgfnflhdabmcaa.Leb Go.Proofs.Ytfgfnflhdabmcaa.Cfa
theorem uL_le (d : Nat) : ∀ u : Nat, u < 128 ^ (d + 1) → (ulebL u).length ≤ d + 1 := by
  induction d with
  | zero =>
    intro u h
    rw [ulebL_small (by simp at h; omega)]
    simp
  | succ d ih =>
    intro u h
    by_cases c : 127 < u
    · rw [ulebL_big c]
      have := ih (u / 128) (by rw [Nat.pow_succ] at h; omega)
      simp
      omega
    · rw [ulebL_small c]
      simp
theorem sL_le (d : Nat) : ∀ n : Int, -(64 * 128 ^ d : Int) ≤ n → n < 64 * 128 ^ d → (slebL n).length ≤ d + 1 := by
  induction d with
  | zero =>
    intro n h0 h1
    rw [slebL_small (by simp at h0 h1; omega)]
    simp
  | succ d ih =>
    intro n h0 h1
    by_cases c : n < -64 ∨ 63 < n
    · rw [slebL_big c]
      rw [Int.pow_succ] at h0 h1
      have := ih (n / 128) (by omega) (by omega)
      simp
      omega
    · rw [slebL_small c]
      simp
def U (a : Int) : List Int := ulebL (a % 18446744073709551616).toNat
theorem U_le (a : Int) : (U a).length ≤ 10 := uL_le 9 _ (by
  have : (128 : Nat) ^ (9 + 1) = 1180591620717411303424 := by decide
  omega)
theorem S_le {a : Int} (h0 : -9223372036854775808 ≤ a) (h1 : a ≤ 9223372036854775807) : (slebL a).length ≤ 10 := sL_le 9 a (by
  have : (128 : Int) ^ 9 = 9223372036854775808 := by decide
  omega) (by
  have : (128 : Int) ^ 9 = 9223372036854775808 := by decide
  omega)
theorem U_f (a : Int) (k : Nat) (hk : 10 ≤ k) : leb_Uleb.f k a = some (U a) := uleb_f a k hk
def advB (n : Int) : List Int := if n < 64 then [(64 + n) % 256] else if n < 256 then [2, n % 256] else if n < 65536 then [3, n % 256, (n / 256) % 256] else [4, n % 256, (n / 256) % 256, (n / 65536) % 256, (n / 16777216) % 256]
def opB (k r n : Int) : List Int :=
  if k = 1 then advB n
  else if k = 2 then [12] ++ U r ++ U n
  else if k = 4 then [13] ++ U r
  else if k = 3 then [14] ++ U n
  else if k = 5 then (if n ≤ 0 then [(128 + r) % 256] ++ U (-(n / 8)) else [17] ++ U r ++ slebL (-(n / 8)))
  else if k = 6 then [(192 + r) % 256]
  else if k = 7 then [7] ++ U r
  else if k = 8 then [8] ++ U r
  else if k = 9 then [10]
  else if k = 10 then [11]
  else [0]
theorem may5 {r n : Int} (h : mayF 5 r n = true) : ∃ m : Int, n = 8 * m ∧ 0 ≤ r ∧ r ≤ 16 ∧ -268435456 ≤ m ∧ m ≤ 268435455 := by
  have h' : (decide (n.tmod 8 = 0) && (decide (0 ≤ r) && (decide (r ≤ 16) && (decide (-2147483648 ≤ n) && decide (n ≤ 2147483640))))) = true := h
  simp only [Bool.and_eq_true, decide_eq_true_eq] at h'
  obtain ⟨h0, h1, h2, h3, h4⟩ := h'
  obtain ⟨m, rfl⟩ := Int.dvd_of_tmod_eq_zero h0
  exact ⟨m, rfl, h1, h2, by omega, by omega⟩
theorem may1 {r n : Int} (h : mayF 1 r n = true) : 0 ≤ n ∧ n ≤ 2147483647 := by
  have h' : (decide (r = 0) && (decide (0 ≤ n) && decide (n ≤ 2147483647))) = true := h
  simp only [Bool.and_eq_true, decide_eq_true_eq] at h'
  exact h'.2
theorem may6 {r n : Int} (h : mayF 6 r n = true) : 0 ≤ r ∧ r ≤ 16 := by
  have h' : (decide (n = 0) && (decide (0 ≤ r) && decide (r ≤ 16))) = true := h
  simp only [Bool.and_eq_true, decide_eq_true_eq] at h'
  exact h'.2
theorem advB_le (n : Int) : (advB n).length ≤ 30 := by
  unfold advB
  by_cases d1 : n < 64
  · rw [if_pos d1]; simp
  · rw [if_neg d1]
    by_cases d2 : n < 256
    · rw [if_pos d2]; simp
    · rw [if_neg d2]
      by_cases d3 : n < 65536
      · rw [if_pos d3]; simp
      · rw [if_neg d3]; simp
theorem opB_le {k r n : Int} (h : mayF k r n = true) : (opB k r n).length ≤ 30 := by
  have hr := U_le r
  have hn := U_le n
  unfold opB
  by_cases c1 : k = 1
  · rw [if_pos c1]; exact advB_le n
  rw [if_neg c1]
  by_cases c2 : k = 2
  · rw [if_pos c2]; simp; omega
  rw [if_neg c2]
  by_cases c4 : k = 4
  · rw [if_pos c4]; simp; omega
  rw [if_neg c4]
  by_cases c3 : k = 3
  · rw [if_pos c3]; simp; omega
  rw [if_neg c3]
  by_cases c5 : k = 5
  · rw [if_pos c5]
    subst c5
    obtain ⟨m, rfl, h1, h2, h3, h4⟩ := may5 h
    have e : 8 * m / 8 = m := Int.mul_ediv_cancel_left m (by decide)
    rw [e]
    have hm := U_le (-m)
    have hs := S_le (a := -m) (by omega) (by omega)
    by_cases d : 8 * m ≤ 0
    · rw [if_pos d]; simp; omega
    · rw [if_neg d]; simp; omega
  rw [if_neg c5]
  by_cases c6 : k = 6
  · rw [if_pos c6]; simp
  rw [if_neg c6]
  by_cases c7 : k = 7
  · rw [if_pos c7]; simp; omega
  rw [if_neg c7]
  by_cases c8 : k = 8
  · rw [if_pos c8]; simp; omega
  rw [if_neg c8]
  by_cases c9 : k = 9
  · rw [if_pos c9]; simp
  rw [if_neg c9]
  by_cases c10 : k = 10
  · rw [if_pos c10]; simp
  rw [if_neg c10]
  simp
theorem put1 (k : Nat) (hk : 2 ≤ k) (a x : List Int) (ha : a.length ≤ 1000) (hx : x.length ≤ 1000) : cfa_put.f k a [x] = some (a ++ x) := by
  obtain ⟨k, rfl⟩ : ∃ m, k = m + 1 + 1 := ⟨k - 2, by omega⟩
  show cfa_put.l0 (k + 1 + 1) a [x] 1 0 = _
  have e0 : rd_L12 [x] 0 = x := rfl
  rw [cfa_put.l0, if_pos (by omega), if_pos (by omega), if_pos (by simp), e0, if_pos (by omega), show wrap64 (0 + 1) = 1 from by unfold wrap64; omega, cfa_put.l0, if_neg (by omega)]
theorem put2 (k : Nat) (hk : 3 ≤ k) (a x y : List Int) (ha : a.length ≤ 1000) (hx : x.length ≤ 1000) (hy : y.length ≤ 1000) : cfa_put.f k a [x, y] = some (a ++ x ++ y) := by
  obtain ⟨k, rfl⟩ : ∃ m, k = m + 1 + 1 + 1 := ⟨k - 3, by omega⟩
  show cfa_put.l0 (k + 1 + 1 + 1) a [x, y] 2 0 = _
  have e0 : rd_L12 [x, y] 0 = x := rfl
  have e1 : rd_L12 [x, y] 1 = y := rfl
  rw [cfa_put.l0, if_pos (by omega), if_pos (by omega), if_pos (by simp), e0, if_pos (by omega), show wrap64 (0 + 1) = 1 from by unfold wrap64; omega, cfa_put.l0, if_pos (by omega), if_pos (by omega), if_pos (by simp), e1, if_pos (by rw [List.length_append]; omega), show wrap64 (1 + 1) = 2 from by unfold wrap64; omega, cfa_put.l0, if_neg (by omega)]
theorem C_blk {α : Type} (d : Kd α) {w : World} {g e : Nat} {cs : Array Value} {xs : List α} (h : w.heap[g]? = some (.cells cs e (0, 0))) (hr : Reps (d.K w) d.sz xs cs.toList) (hm : xs.length ≤ 9223372036854775807) : d.C w (some ⟨g, 0, none⟩) xs.length xs := by
  refine ⟨rfl, hm, fun _ => ⟨_, rfl, fun j p hj => ⟨_, ?_, hr.2 j p hj, fun i u hu => ?_⟩⟩⟩
  · exact d.K_len (hr.2 j p hj)
  · have hc := blk_cell h (j * d.sz + i)
    have hl := d.K_len (hr.2 j p hj)
    have hi : i < d.sz := by rw [← hl]; exact (List.getElem?_eq_some_iff.1 hu).1
    have e1 : (⟨g, 0, none⟩ : Addr).add (j * d.sz + i) = ⟨g, j * d.sz + i, none⟩ := by
      unfold Addr.add
      split
      · rename_i h0; rw [h0]
      · simp only [Nat.zero_add]
    rw [e1, hc, ← hu]
    rw [List.getElem?_take_of_lt hi, List.getElem?_drop, Array.getElem?_toList]
abbrev Own (w : World) (b : Nat) (v : Value) (l : List Int) : Prop := Kd.R (Kd.int .u8) 5 w b (fun _ => True) v l
theorem own_kept {w W : World} {b : Nat} {v x : Value} {l : List Int} (hx : Own w b x l) (hK : Kept w W (fun k => some k = v.ownBlock)) (hne : x.ownBlock = none ∨ x.ownBlock ≠ v.ownBlock) :
    ∃ A c, x = .slice A l.length c ∧ l.length ≤ c ∧ Kd.C (Kd.int .u8) W A l.length l := by
  have h1 := Kd.R_kept (Kd.R_tight rfl hx) hK (fun k hk hs => by
    rcases hne with h | h
    · rw [h] at hk
      cases hk
    · exact h (hk.symm.trans hs))
  obtain ⟨A, c, rfl⟩ := Kd.R_slice hx
  have h2 := Kd.R_reads' h1
  exact ⟨A, c, rfl, h2.2.1, h2.2.2⟩
theorem put1_calls {w wb : World} {g : Nat} {v x : Value} {a l : List Int} (hv : Own w wb.heap.size v a) (hx : Own w wb.heap.size x l) (hne : x.ownBlock = none ∨ x.ownBlock ≠ v.ownBlock) (hg : w.heap[g]? = some (.cells #[x] 28 (0, 0))) (ha : a.length ≤ 1000) (hl : l.length ≤ 1000) (hB : Below wb.heap.size wb w) :
    Calls Try.prog 79 #[v, .slice (some ⟨g, 0, none⟩) 1 1] w fun e w' => ∃ u, e = .returned u ∧ Own w' wb.heap.size u (a ++ l) ∧ Below wb.heap.size wb w' := by
  refine (cfa_put.calls 2 (fun k => some k = v.ownBlock) v a (some ⟨g, 0, none⟩) 1 [l] (a ++ l) wb w hB (Kd.R_tight rfl hv) ?_ (by simp) (put1 2 (by omega) a l ha hl)).mono ?_
  · intro W hK
    have hg' : W.heap[g]? = some (.cells #[x] 28 (0, 0)) := (hK.2 g (blk_lt hg) (fun hs => Kd.R_ne hv hg (by decide) hs)).trans hg
    obtain ⟨A, c, rfl, hle, hC⟩ := own_kept hx hK hne
    exact C_blk (Kd.slice 5 (Kd.int .u8)) (xs := [l]) hg' ((Reps.none _ _).snoc ⟨A, c, rfl, hle, hC⟩ rfl) (by simp)
  · rintro e w' ⟨u, rfl, hR, hB', _⟩
    exact ⟨u, rfl, Kd.R_mono hR (fun _ _ => trivial), hB'⟩
theorem put2_calls {w wb : World} {g : Nat} {v x y : Value} {a l m : List Int} (hv : Own w wb.heap.size v a) (hx : Own w wb.heap.size x l) (hy : Own w wb.heap.size y m) (hne : x.ownBlock = none ∨ x.ownBlock ≠ v.ownBlock) (hne2 : y.ownBlock = none ∨ y.ownBlock ≠ v.ownBlock) (hg : w.heap[g]? = some (.cells #[x, y] 28 (0, 0))) (ha : a.length ≤ 1000) (hl : l.length ≤ 1000) (hm : m.length ≤ 1000) (hB : Below wb.heap.size wb w) :
    Calls Try.prog 79 #[v, .slice (some ⟨g, 0, none⟩) 2 2] w fun e w' => ∃ u, e = .returned u ∧ Own w' wb.heap.size u (a ++ l ++ m) ∧ Below wb.heap.size wb w' := by
  refine (cfa_put.calls 3 (fun k => some k = v.ownBlock) v a (some ⟨g, 0, none⟩) 2 [l, m] (a ++ l ++ m) wb w hB (Kd.R_tight rfl hv) ?_ (by simp) (put2 3 (by omega) a l m ha hl hm)).mono ?_
  · intro W hK
    have hg' : W.heap[g]? = some (.cells #[x, y] 28 (0, 0)) := (hK.2 g (blk_lt hg) (fun hs => Kd.R_ne hv hg (by decide) hs)).trans hg
    obtain ⟨A, c, rfl, hle, hC⟩ := own_kept hx hK hne
    obtain ⟨A', c', rfl, hle', hC'⟩ := own_kept hy hK hne2
    exact C_blk (Kd.slice 5 (Kd.int .u8)) (xs := [l, m]) hg' (((Reps.none _ _).snoc (show (Kd.slice 5 (Kd.int .u8)).K W l [.slice A l.length c] from ⟨A, c, rfl, hle, hC⟩) rfl).snoc (show (Kd.slice 5 (Kd.int .u8)).K W m [.slice A' m.length c'] from ⟨A', c', rfl, hle', hC'⟩) rfl) (by simp)
  · rintro e w' ⟨u, rfl, hR, hB', _⟩
    exact ⟨u, rfl, Kd.R_mono hR (fun _ _ => trivial), hB'⟩
end Go.Proofs.Ytfgfnflhdabmcaa.CfaB
end
