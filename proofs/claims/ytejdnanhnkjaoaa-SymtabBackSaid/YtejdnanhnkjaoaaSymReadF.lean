/- symtab.Read, as a function. -/
import Derived.Test.YtejdnanhnkjaoaaSymRead2
namespace Go.Proofs.Ytejdnanhnkjaoaa.SymR
set_option linter.unusedVariables false
set_option linter.unusedSimpArgs false
open Go.RowKit Go.Proofs.Ytejdnanhnkjaoaa.G Go.Proofs.YtejdnanhnkjaoaaW.PrintWords Go.Proofs.YtejdnanhnkjaoaaW.PrintLast Go.Proofs.YtejdnanhnkjaoaaW.PrintMore
open Go.Proofs.Ytejdnanhnkjaoaa.Bit
/-- all symbols, from an entry on -/
def symsR (l0 l1 : List Int) (l3 : List ByteArray) : Nat → Nat → Option (List S58)
  | 0, _ => some []
  | d + 1, i => (symR l0 l1 l3 (24 * ((i : Int) + 1))).bind fun x => (symsR l0 l1 l3 d (i + 1)).map (x :: ·)
theorem symsR_get (l0 l1 : List Int) (l3 : List ByteArray) : ∀ (d i : Nat) (xs : List S58), symsR l0 l1 l3 d i = some xs → xs.length = d ∧ ∀ j (h : j < xs.length), symR l0 l1 l3 (24 * (((i + j : Nat) : Int) + 1)) = some xs[j]
  | 0, i, xs, h => by
    obtain rfl := Option.some.inj h
    exact ⟨rfl, fun j h => by simp at h⟩
  | d + 1, i, xs, h => by
    obtain ⟨x, h1, h2⟩ := Option.bind_eq_some_iff.1 h
    obtain ⟨ys, h3, rfl⟩ := Option.map_eq_some_iff.1 h2
    obtain ⟨h4, h5⟩ := symsR_get l0 l1 l3 d (i + 1) ys h3
    refine ⟨by simp [h4], fun j hj => ?_⟩
    cases j with
    | zero => exact h1
    | succ j =>
      have := h5 j (by simpa using hj)
      rw [show i + 1 + j = i + (j + 1) from by omega] at this
      exact this
theorem equal_l0 (l : List Int) (hl : l.length ≤ 2000000) (d : Nat) : ∀ k i, i + d = l.length → d < k → slices_Equal_byte_byte.l0 k l l (l.length : Int) (i : Int) = some true := by
  induction d with
  | zero =>
    intro k i h hk
    obtain ⟨k, rfl⟩ : ∃ m, k = m + 1 := ⟨k - 1, by omega⟩
    rw [slices_Equal_byte_byte.l0, if_neg (by omega)]
  | succ d ih =>
    intro k i h hk
    obtain ⟨k, rfl⟩ : ∃ m, k = m + 1 := ⟨k - 1, by omega⟩
    rw [slices_Equal_byte_byte.l0, if_pos (by omega), if_pos (by omega), if_pos (by omega), if_pos (by omega), if_pos rfl, wrap64_id (by omega) (by omega), show (i : Int) + 1 = ((i + 1 : Nat) : Int) from by omega, ih k (i + 1) (by omega) (by omega)]
theorem equal_f (l : List Int) (hl : l.length ≤ 2000000) (k : Nat) (hk : l.length < k) : slices_Equal_byte_byte.f k l l = some true := by
  unfold slices_Equal_byte_byte.f
  rw [if_pos rfl]
  exact equal_l0 l hl l.length k 0 (by omega) hk
def readF (l0 l1 : List Int) (a2 : Int) (l3 : List ByteArray) : Option (List S58 × Int) :=
  if l0.length ≤ 1048576 ∧ l1.length ≤ 1048576 ∧ l0.length % 24 = 0 ∧ 24 ≤ l0.length then
    (symsR l0 l1 l3 (l0.length / 24 - 1) 0).bind fun xs => if SymW.writeF xs l3 = some (l0, l1, a2, 0) then some (xs, 0) else none
  else none
theorem readF_calls (A0 : Option Addr) (c0 : Nat) (l0 : List Int) (A1 : Option Addr) (c1 : Nat) (l1 : List Int) (a2 : Int) (A3 : Option Addr) (c3 : Nat) (l3 : List ByteArray) (r1 : List S58) (r2 : Int) (w : World) (hr0 : Kd.C (Kd.int .u8) w A0 l0.length l0) (hc0 : l0.length ≤ c0) (hr1 : Kd.C (Kd.int .u8) w A1 l1.length l1) (hc1 : l1.length ≤ c1) (hr3 : Kd.C Kd.string w A3 l3.length l3) (hc3 : l3.length ≤ c3) (h : readF l0 l1 a2 l3 = some (r1, r2)) :
    Calls Try.prog 26 #[.slice A0 l0.length c0, .slice A1 l1.length c1, .int .i64 a2, .slice A3 l3.length c3] w fun e w' => ∃ v0_ : Value, e = .returned (.tuple #[v0_, .int .i64 r2]) ∧ Kd.R k58 58 w' w.heap.size (fun _ => True) v0_ r1 ∧ Below w.heap.size w w' := by
  unfold readF at h
  split at h
  case isFalse => cases h
  rename_i hc
  obtain ⟨xs, h1, h2⟩ := Option.bind_eq_some_iff.1 h
  split at h2
  case isFalse => cases h2
  rename_i hw
  obtain ⟨rfl, rfl⟩ := Prod.mk.inj (Option.some.inj h2)
  obtain ⟨h3, h4⟩ := symsR_get l0 l1 l3 _ 0 xs h1
  refine read_ok A0 c0 l0 A1 c1 l1 a2 A3 c3 l3 w hr0 hc0 hr1 hc1 hr3 hc3 xs (by omega) hc.1 hc.2.1 (fun i hi => ?_) hw 2000000 (equal_f l0 (by omega) _ (by omega)) (equal_f l1 (by omega) _ (by omega))
  have := h4 i hi
  rw [Nat.zero_add] at this
  exact this
end Go.Proofs.Ytejdnanhnkjaoaa.SymR
