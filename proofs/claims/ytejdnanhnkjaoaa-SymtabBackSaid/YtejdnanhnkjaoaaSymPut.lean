/- symtab.Write's own function 'put'. -/
import Derived.Test.YtejdnanhnkjaoaaLebFix
import Derived.Great.Frames
namespace Go.Proofs.Ytejdnanhnkjaoaa.SymW
set_option linter.unusedVariables false
set_option linter.unusedSimpArgs false
open Go.RowKit Go.Proofs.Ytejdnanhnkjaoaa.G Go.Proofs.YtejdnanhnkjaoaaW.PrintWords Go.Proofs.YtejdnanhnkjaoaaW.PrintLast Go.Proofs.YtejdnanhnkjaoaaW.PrintMore
open Go.Proofs.Ytejdnanhnkjaoaa.Bit
/-- the low bytes of a number -/
def putL (n : Int) (k : Nat) : List Int := (Leb.leB (n % 18446744073709551616) 8).take k
theorem put_some (n : Int) : leb_Put.f 1001 n 8 = some (Leb.leB (n % 18446744073709551616) 8, 0) := by
  rw [Leb.put_f n 8 1001 (by omega)]
  unfold Leb.putV
  rw [if_pos (by decide), if_neg (by omega)]
  rfl
theorem put_walk (n size : Int) (pc : Nat) (v : Value) (xs : List Int) (r1 : List Int) (r2 : Int) (w : World) (base : Nat) (ok : Nat → Prop) (hok : ∀ k, ok k → k ≠ pc) (hfresh : ∀ k, w.heap.size ≤ k → ok k) (hp : leb_Put.f 1001 n 8 = some (r1, r2)) (hs0 : 0 ≤ size) (hs1 : size ≤ r1.length)
    (hcell : w.heap[pc]? = some (.cells #[v] 24 (0, 0))) (hR : Kd.R (Kd.int .u8) 5 w base ok v xs) (hbase : base ≤ w.heap.size) (hlim : xs.length + r1.length ≤ 140737488355328) (hpb : base ≤ pc) :
    Calls Try.prog 32 #[.int .i64 n, .int .i64 size, .pointer (some ⟨pc, 0, none⟩)] w fun e w' => ∃ v', e = .returned (.tuple #[]) ∧ w'.heap[pc]? = some (.cells #[v'] 24 (0, 0)) ∧ Kd.R (Kd.int .u8) 5 w' base ok v' (xs ++ r1.take size.toNat) ∧ Below base w w' ∧ ∀ j, j < w.heap.size → j ≠ pc → some j ≠ v.ownBlock → w'.heap[j]? = w.heap[j]? := by
  obtain ⟨m, rfl⟩ := Int.eq_ofNat_of_zero_le hs0
  have hm : m ≤ r1.length := by omega
  go_enter Try.func32, Try.ntmps32
  go_wp2_with fail
  refine (leb_Put.calls 1001 n 8 r1 r2 _ hp).mono ?_
  rintro e w' ⟨vb, rfl, hob, hb⟩
  obtain ⟨Ab, cb, rfl⟩ := Kd.R_slice hob
  have hcb := (Kd.R_reads' hob).2.1
  have hmc : m ≤ cb := Nat.le_trans hm hcb
  have hpc : pc < w.heap.size := (Array.getElem?_eq_some_iff.1 hcell).1
  have hcell' : w'.heap[pc]? = some (.cells #[v] 24 (0, 0)) := (hb.block _ hpc).trans hcell
  have hc1 : w'.cell? ⟨pc, 0, none⟩ = some v := by unfold World.cell?; rw [hcell']; rfl
  have hR' := Kd.R_below hR hb
  go_wp2
  refine start_ (n := 6) (S := fun u => u.cell? ⟨pc, 0, none⟩ = some v) (ds := [5]) #[false, false, false, false, false, false] (by kernel_rfl) rfl rfl hc1 (fun hHeld => ?_)
  refine take_ (i := 0) (N := some 12) (v := ?_) (a' := ?_) #[true, false, false, false, false, false] rfl rfl (by kernel_rfl) (fun _ _ _ h => h) (Or.inl ⟨by rfl, ?_⟩) hHeld ?_ ?_
  rotate_left
  · intro u s0
    go_simp
    with_reducible rfl
  rotate_left
  · simp only [Act.put, List.setIfInBounds_toArray, List.set_cons_zero, List.set_cons_succ, i64_w, i32_w]
    rfl
  refine pure_ (i := 1) (N := some 13) (v := ?_) (a' := ?_) #[true, true, false, false, false, false] rfl rfl (by kernel_rfl) (fun _ _ _ h => h) (Or.inl ⟨by rfl, ?_⟩) ?_ ?_
  rotate_left
  · intro u
    go_simp
    with_reducible rfl
  rotate_left
  · simp only [Act.put, List.setIfInBounds_toArray, List.set_cons_zero, List.set_cons_succ, i64_w, i32_w]
    rfl
  refine pure_ (i := 2) (N := some 14) (v := ?_) (a' := ?_) #[true, true, true, false, false, false] rfl rfl (by kernel_rfl) (fun _ _ _ h => h) (Or.inl ⟨by rfl, ?_⟩) ?_ ?_
  rotate_left
  · intro u
    go_simp
    with_reducible rfl
  rotate_left
  · simp only [Act.put, List.setIfInBounds_toArray, List.set_cons_zero, List.set_cons_succ, i64_w, i32_w]
    rfl
  refine pure_ (i := 3) (N := some 15) (v := ?_) (a' := ?_) #[true, true, true, true, false, false] rfl rfl (by kernel_rfl) (fun _ _ _ h => h) (Or.inl ⟨by rfl, ?_⟩) ?_ ?_
  rotate_left
  · intro u
    go_simp
    with_reducible rfl
  rotate_left
  · simp only [Act.put, List.setIfInBounds_toArray, List.set_cons_zero, List.set_cons_succ, i64_w, i32_w]
    rfl
  refine one_ (i := 4) (N := some 16) #[true, true, true, true, true, false] rfl rfl (by kernel_rfl) (by decide) (fun K hK => ?_)
  have hlen : (r1.take m).length = m := by rw [List.length_take]; omega
  have hC := Kd.C_take (m := m) (Kd.R_reads' hob).2.2 hm
  rw [hlen] at hC
  have hBw : Below base w w' := ⟨hb.os, hb.tape, hb.output, hb.size, fun k hk => hb.block k (by omega)⟩
  refine Kd.R_append_rows_step (Kd.int .u8) (w0 := w) base (by rfl) (.tmp 12) (.tmp 15) 24 5 (.int .u8 0) 1 rfl Try.underlying24 info5 rfl (by decide) (by omega) v xs (r1.take m) Ab m cb ok (fun _ => False) rfl rfl ?aO ?aR (fun _ _ h => h) (fun _ h => h.elim) ?aF ?aB ?aS ?aL ?_
  case aO => exact Kd.R_drew hR'
  case aR => exact Kd.C_drew hC
  case aF => intro k hk; exact hfresh k (by have := hb.size; simp at hk; omega)
  case aB => exact below_drew1 hBw
  case aS => have := hb.size; simp; omega
  case aL => omega
  intro v1 w1 ho hbb hg hat
  obtain ⟨A1, k1, rfl⟩ := Kd.R_slice ho
  have hne : some pc ≠ v.ownBlock := fun e => hok pc (hR.1 pc e.symm) rfl
  have hc2 : w1.heap[pc]? = some (.cells #[v] 24 (0, 0)) := (hg.block pc (by have := hb.size; simp; omega) hne).trans hcell'
  have hc3 : w1.cell? ⟨pc, 0, none⟩ = some v := by unfold World.cell?; rw [hc2]; rfl
  have hfz : w1.frozen? ⟨pc, 0, none⟩ = false := by unfold World.frozen?; rw [hc2]; simp
  refine hK.out _ _ hc3 (fun hHeld => ?_)
  clear hK K
  refine norm_ (a' := ?_) ?_ ?_
  rotate_left
  · show Act.put _ (some 16) _ = _
    simp only [Act.put, List.setIfInBounds_toArray, List.set_cons_zero, List.set_cons_succ, i64_w, i32_w]
    rfl
  refine last_ (i := 5) (N := none) #[true, true, true, true, true, true] rfl rfl (by kernel_rfl) (by decide) (fun K hK => ?_)
  rw [if_pos (by rfl)]
  go_simp
  refine hK.out _ _ ?_
  clear hK K
  refine done_ (by kernel_rfl) ?_
  go_end0
  have hoth : ∀ j, j ≠ pc → (w1.setCell ⟨pc, 0, none⟩ (.slice A1 (xs.length + m) k1)).heap[j]? = w1.heap[j]? := fun j hj => RowKit.Below.heap_setCell _ _ _ _ hj
  refine ⟨.slice A1 (xs.length + m) k1, rfl, ?_, ?_, ?_, ?_⟩
  · simp [World.setCell, hc2, Array.getElem?_modify]
  · rw [Int.toNat_natCast]
    have hl2 : (xs ++ r1.take m).length = xs.length + m := by rw [List.length_append, hlen]
    rw [hl2] at ho
    exact Kd.R_step ho (fun j hj _ => hoth j (hok j hj))
  · exact hbb.trans ⟨rfl, rfl, rfl, by simp [World.setCell], fun j hj => hoth j (by omega)⟩
  · intro j h1 h2 h3
    rw [hoth j h2, hg.block j (by have := hb.size; simp; omega) h3]
    exact hb.block j h1
/-- A heap cell (block pc) that holds a slice of bytes of one's own; the blocks named by 'keep' are as they were in w1. -/
def Out (keep : Nat → Prop) (w1 : World) (base pc : Nat) (W : World) (xs : List Int) : Prop :=
  ∃ v, W.heap[pc]? = some (.cells #[v] 24 (0, 0)) ∧ Kd.R (Kd.int .u8) 5 W base (fun k => k ≠ pc ∧ ¬ keep k) v xs ∧ (∀ j, keep j → W.heap[j]? = w1.heap[j]?) ∧ Below base w1 W
theorem put_calls (keep : Nat → Prop) (w1 : World) (base pc : Nat) (hpb : base ≤ pc) (hb1 : base ≤ w1.heap.size) (hkeep : ∀ j, keep j → j < w1.heap.size ∧ j ≠ pc) (n : Int) (k : Nat) (hk : k ≤ 8) (W : World) (xs : List Int) (hx : xs.length ≤ 1000000) (h : Out keep w1 base pc W xs) :
    Calls Try.prog 32 #[.int .i64 n, .int .i64 (k : Int), .pointer (some ⟨pc, 0, none⟩)] W fun e w' => e = .returned (.tuple #[]) ∧ Out keep w1 base pc w' (xs ++ putL n k) := by
  obtain ⟨v, hc, hR, hg, hB⟩ := h
  have hsz := hB.size
  have hl : (Leb.leB (n % 18446744073709551616) 8).length = 8 := Leb.leB_length 8 _
  refine (put_walk n k pc v xs _ 0 W base (fun k => k ≠ pc ∧ ¬ keep k) (fun j hj => hj.1) (fun j hj => ⟨by have := (Array.getElem?_eq_some_iff.1 hc).1; omega, fun e => by have := (hkeep j e).1; omega⟩) (put_some n) (by omega) (by rw [hl]; omega) hc hR (by omega) (by rw [hl]; omega) hpb).mono ?_
  rintro e w' ⟨v', rfl, hc', hR', hb, hfr⟩
  refine ⟨rfl, v', hc', by rw [Int.toNat_natCast] at hR'; exact hR', fun j hj => ?_, hB.trans hb⟩
  exact (hfr j (by have := (hkeep j hj).1; omega) (hkeep j hj).2 (fun e => (hR.1 j e.symm).2 hj)).trans (hg j hj)
theorem put_calls_lit (keep : Nat → Prop) (w1 : World) (base pc : Nat) (hpb : base ≤ pc) (hb1 : base ≤ w1.heap.size) (hkeep : ∀ j, keep j → j < w1.heap.size ∧ j ≠ pc) (n c : Int) (hn : n = c) (k : Nat) (hk : k ≤ 8) (W : World) (xs : List Int) (hx : xs.length ≤ 1000000) (h : Out keep w1 base pc W xs) :
    Calls Try.prog 32 #[.int .i64 c, .int .i64 (k : Int), .pointer (some ⟨pc, 0, none⟩)] W fun e w' => e = .returned (.tuple #[]) ∧ Out keep w1 base pc w' (xs ++ putL n k) := by
  subst hn
  exact put_calls keep w1 base pc hpb hb1 hkeep n k hk W xs hx h
theorem putL_le (n : Int) (k : Nat) : (putL n k).length ≤ 8 := by
  have hl : (Leb.leB (n % 18446744073709551616) 8).length = 8 := Leb.leB_length 8 _
  unfold putL
  rw [List.length_take]
  omega
theorem Out.round {keep : Nat → Prop} {w1 W W' : World} {base pc : Nat} {xs : List Int} (h : Out keep w1 base pc W xs) (hb : Below W.heap.size W W') (gb : Nat) (hgb : W.heap.size ≤ gb) : Out (fun j => keep j ∨ j = gb) W' base pc W' xs := by
  obtain ⟨v, hc, hR, hg, hB⟩ := h
  refine ⟨v, (hb.block pc (Array.getElem?_eq_some_iff.1 hc).1).trans hc, Kd.R_mono (Kd.R_below (Kd.R_tight rfl hR) hb) (fun k hk => ?_), fun _ _ => rfl, Below.refl _ _⟩
  refine ⟨(hR.1 k hk.symm).1, fun e => ?_⟩
  rcases e with e | e
  · exact (hR.1 k hk.symm).2 e
  · have := Kd.R_lt hR k hk.symm; omega
theorem Out.back {keep : Nat → Prop} {w1 W1 W' : World} {base pc gb : Nat} {xs : List Int} (h : Out (fun j => keep j ∨ j = gb) W1 base pc W' xs) (hk : ∀ j, keep j → W1.heap[j]? = w1.heap[j]?) (hB : Below base w1 W1) : Out keep w1 base pc W' xs := by
  obtain ⟨v, hc, hR, hg, hB2⟩ := h
  exact ⟨v, hc, Kd.R_mono hR (fun k hk => ⟨hk.1, fun e => hk.2 (.inl e)⟩), fun j hj => (hg j (.inl hj)).trans (hk j hj), hB.trans hB2⟩
theorem Out.blk {keep : Nat → Prop} {w1 W : World} {base pc gb : Nat} {xs : List Int} {o : Obj} (h : Out (fun j => keep j ∨ j = gb) w1 base pc W xs) (ho : w1.heap[gb]? = some o) : W.heap[gb]? = some o := by
  obtain ⟨v, hc, hR, hg, hB2⟩ := h
  exact (hg gb (.inr rfl)).trans ho
theorem putL_len {xs : List Int} {b : Nat} (h : xs.length ≤ b) (n : Int) (k : Nat) : (xs ++ putL n k).length ≤ b + 8 := by
  have := putL_le n k
  rw [List.length_append]
  omega
end Go.Proofs.Ytejdnanhnkjaoaa.SymW
