/- The reference's answers on names are the program's: At, Hash, Gnu, Strings. -/
import Derived.Test.YtejdnanhnkjaoaaSymNamesS
import Derived.Test.YtejdnanhnkjaoaaGf13
namespace Go.Proofs.Ytejdnanhnkjaoaa.Sym
set_option linter.unusedVariables false
set_option linter.unusedSimpArgs false
open Go.RowKit Go.Proofs.Ytejdnanhnkjaoaa.G Go.Proofs.YtejdnanhnkjaoaaW.PrintWords Go.Proofs.YtejdnanhnkjaoaaW.PrintLast Go.Proofs.YtejdnanhnkjaoaaW.PrintMore Go.Proofs.Ytejdnanhnkjaoaa.Bit

theorem rdOf_get (l : List ByteArray) (i : Nat) (h : i < l.length) : rdOf ByteArray.empty l (i : Int) = l[i] := by simp [rdOf, List.getD, h]
theorem rd_get (l : List Int) (i : Nat) (h : i < l.length) : rd l (i : Int) = l[i] := by simp [rd, List.getD, h]
theorem bt_get (s : ByteArray) (i : Nat) (h : i < s.data.toList.length) : bt s (i : Int) = (s.data.toList[i].toNat : Int) := by
  have h2 : i < s.size := by rw [← data_length]; exact h
  simp only [bt, Int.toNat_natCast, h2, dif_pos]
  rw [Array.getElem_toList]
  rfl
theorem rzero_l0 (s : ByteArray) (hs : s.size ≤ 140737488351232) (d : Nat) : ∀ (k i : Nat), i + d = s.size → d < k → gangwayref08_zero.l0 k s (i : Int) = some (decide ((0 : UInt8) ∈ s.data.toList.drop i)) := by
  have hd := data_length s
  induction d with
  | zero =>
    intro k i h1 h2
    obtain ⟨k, rfl⟩ : ∃ m, k = m + 1 := ⟨k - 1, by omega⟩
    simp only [gangwayref08_zero.l0]
    rw [if_neg (by omega), List.drop_of_length_le (by omega)]
    rfl
  | succ d ih =>
    intro k i h1 h2
    obtain ⟨k, rfl⟩ : ∃ m, k = m + 1 := ⟨k - 1, by omega⟩
    have hlt : i < s.data.toList.length := by omega
    simp only [gangwayref08_zero.l0]
    rw [if_pos (by omega), if_pos (by omega), wrap64_id (by omega) (by omega), show (i : Int) + 1 = ((i + 1 : Nat) : Int) from by omega, ih k (i + 1) (by omega) (by omega), bt_get s i hlt, List.drop_eq_getElem_cons hlt]
    by_cases c : s.data.toList[i] = 0
    · rw [if_pos (by rw [c]; rfl), c, decide_eq_true (by simp)]
    · rw [if_neg (fun e => c (UInt8.toNat_inj.mp (show s.data.toList[i].toNat = 0 by omega)))]
      congr 1
      rw [decide_eq_decide, List.mem_cons]
      exact ⟨fun h => .inr h, fun h => h.resolve_left (fun e => c e.symm)⟩
theorem rzero_f (s : ByteArray) (hs : s.size ≤ 140737488351232) (k : Nat) (hk : s.size < k) : gangwayref08_zero.f k s = some (decide ((0 : UInt8) ∈ s.data.toList)) := rzero_l0 s hs s.size k 0 (by omega) hk
/-- the place of a name among names -/
def pos (names : List ByteArray) (s : List UInt8) : Nat := names.findIdx fun x => x.data.toList == s
theorem rplace_l0 (names : List ByteArray) (s : ByteArray) (hm : names.length ≤ 140737488351232) (d : Nat) : ∀ (k i : Nat), i + d = names.length → d < k → gangwayref08_place.l0 k names s (i : Int) = some ((i + pos (names.drop i) s.data.toList : Nat) : Int) := by
  induction d with
  | zero =>
    intro k i h1 h2
    obtain ⟨k, rfl⟩ : ∃ m, k = m + 1 := ⟨k - 1, by omega⟩
    simp only [gangwayref08_place.l0]
    rw [if_neg (by omega), List.drop_of_length_le (by omega)]
    rfl
  | succ d ih =>
    intro k i h1 h2
    obtain ⟨k, rfl⟩ : ∃ m, k = m + 1 := ⟨k - 1, by omega⟩
    have hlt : i < names.length := by omega
    simp only [gangwayref08_place.l0]
    rw [if_pos (by omega), if_pos (by omega), rdOf_get names i hlt, List.drop_eq_getElem_cons hlt]
    unfold pos
    rw [List.findIdx_cons]
    by_cases c : names[i].data.toList = s.data.toList
    · rw [if_pos ((same_iff _ _).2 c), show (names[i].data.toList == s.data.toList) = true from by simpa using c]
      simp
    · rw [if_neg (fun e => c ((same_iff _ _).1 e)), show (names[i].data.toList == s.data.toList) = false from by simpa using c, wrap64_id (by omega) (by omega), show (i : Int) + 1 = ((i + 1 : Nat) : Int) from by omega, ih k (i + 1) (by omega) (by omega)]
      simp only [cond_false, pos]
      congr 2
      omega
theorem rplace_f (names : List ByteArray) (s : ByteArray) (hm : names.length ≤ 140737488351232) (k : Nat) (hk : names.length < k) : gangwayref08_place.f k names s = some (pos names s.data.toList : Int) := by
  have := rplace_l0 names s hm names.length k 0 (by omega) hk
  unfold gangwayref08_place.f
  simpa using this
theorem pos_append (names : List ByteArray) (x : ByteArray) (s : List UInt8) : pos (names ++ [x]) s = if pos names s < names.length then pos names s else if x.data.toList = s then names.length else names.length + 1 := by
  unfold pos
  rw [List.findIdx_append]
  split
  · rfl
  · rw [List.findIdx_cons]
    by_cases c : x.data.toList = s
    · rw [if_pos c, show (x.data.toList == s) = true from by simpa using c]
      simp
    · rw [if_neg c, show (x.data.toList == s) = false from by simpa using c]
      simp
      omega
/-- the program's map and the reference's lists say the same -/
structure Rel (m : List (List UInt8 × Int)) (names : List ByteArray) (begins : List Int) : Prop where
  len : begins.length = names.length
  nil : Own.look m [] = some 0
  look : ∀ s, s ≠ [] → Own.look m s = if pos names s < names.length then some (begins.getD (pos names s) 0) else none
theorem rel_new {m : List (List UInt8 × Int)} {names : List ByteArray} {begins : List Int} (h : Rel m names begins) (s : ByteArray) (hs : s.data.toList ≠ []) (hn : ¬ pos names s.data.toList < names.length) (c : Int) : Rel ((s.data.toList, c) :: m) (names ++ [s]) (begins ++ [c]) where
  len := by simp [h.len]
  nil := by rw [Own.look_cons, if_neg hs]; exact h.nil
  look := fun t ht => by
    rw [Own.look_cons, pos_append, List.length_append, List.length_singleton]
    by_cases c1 : s.data.toList = t
    · subst c1
      rw [if_pos rfl, if_neg hn, if_pos rfl, if_pos (by omega), ← h.len]
      simp
    · rw [if_neg c1, if_neg c1, h.look t ht]
      by_cases c2 : pos names t < names.length
      · rw [if_pos c2, if_pos c2, if_pos (by omega), List.getD_eq_getElem?_getD, List.getD_eq_getElem?_getD, List.getElem?_append_left (by rw [h.len]; exact c2)]
      · rw [if_neg c2, if_neg c2, if_neg (by omega)]
theorem symStrs_big (r : List ByteArray) : ∀ m b at_, b.length > 1048576 → symStrs r m b at_ = ([], [], 6) := by
  induction r with
  | nil => intro m b at_ h; simp only [symStrs]; rw [if_pos h]
  | cons s r ih =>
    intro m b at_ h
    simp only [symStrs]
    split
    · rfl
    · split
      · exact ih _ _ _ h
      · exact ih _ _ _ (by rw [List.length_append, List.length_append]; omega)
theorem rstr_l1 (l : List ByteArray) (hl : l.length ≤ 1099511627776) (h255 : ∀ s ∈ l, s.size ≤ 255) (d : Nat) : ∀ k i m b at_ names begins, i + d = l.length → l.length + d + 3 ≤ k → Rel m names begins → b.length ≤ 1048576 → at_.length = i → names.length ≤ i →
    gangwayref08_Strings.l1 k l b at_ names begins (i : Int) = some (symStrs (l.drop i) m b at_) := by
  induction d with
  | zero =>
    intro k i m b at_ names begins h1 h2 hR hb ha hn
    obtain ⟨k, rfl⟩ : ∃ m, k = m + 1 := ⟨k - 1, by omega⟩
    simp only [gangwayref08_Strings.l1]
    rw [if_neg (by omega), List.drop_of_length_le (by omega)]
    simp only [symStrs]
    rw [if_neg (by omega)]
  | succ d ih =>
    intro k i m b at_ names begins h1 h2 hR hb ha hn
    obtain ⟨k, rfl⟩ : ∃ m, k = m + 1 := ⟨k - 1, by omega⟩
    have hlt : i < l.length := by omega
    have hs255 := h255 _ (List.getElem_mem hlt)
    have hlen := hR.len
    simp only [gangwayref08_Strings.l1]
    rw [if_pos (by omega), if_pos (by omega), rdOf_get l i hlt, List.drop_eq_getElem_cons hlt, wrap64_id (n := (i : Int) + 1) (by omega) (by omega), show (i : Int) + 1 = ((i + 1 : Nat) : Int) from by omega]
    simp only [symStrs]
    rw [if_neg (show ¬ l[i].size > 255 by omega)]
    generalize l[i] = s at *
    by_cases c : s.data.toList = []
    · rw [if_pos (by rw [toList_data]; exact c), if_pos (by omega), c, hR.nil]
      exact ih k (i + 1) m b _ names begins (by omega) (by omega) hR hb (by simp [ha]) (by omega)
    · rw [if_neg (by rw [toList_data]; exact c), rplace_f names s (by omega) k (by omega), Option.bind_some, hR.look _ c]
      by_cases c2 : pos names s.data.toList < names.length
      · rw [if_neg (by omega), if_pos (by omega), if_pos (by omega), if_pos (by omega), if_pos c2]
        have hrd : rd begins ((pos names s.data.toList : Nat) : Int) = begins.getD (pos names s.data.toList) 0 := by
          unfold rd
          rw [Int.toNat_natCast]
        rw [hrd]
        exact ih k (i + 1) m b _ names begins (by omega) (by omega) hR hb (by simp [ha]) (by omega)
      · have hle : pos names s.data.toList = names.length := by
          have : pos names s.data.toList ≤ names.length := List.findIdx_le_length
          omega
        rw [hle, if_pos rfl, if_pos (by omega), if_pos (by omega), if_neg (by omega)]
        simp only [Option.bind_some]
        rw [if_pos (by omega), if_pos (by rw [List.length_append, bytesOf_length]; omega)]
        by_cases c3 : (b ++ bytesOf s ++ [0]).length > 1048576
        · rw [if_pos (by omega), symStrs_big _ _ _ _ c3]
        · rw [if_neg (by omega), if_pos (by omega), if_pos (by rw [List.length_append, List.length_singleton]; omega), if_pos (by omega)]
          have hrd : rd (begins ++ [(b.length : Int)]) ((names.length : Nat) : Int) = (b.length : Int) := by
            rw [← hlen]
            simp [rd, List.getD]
          rw [hrd]
          exact ih k (i + 1) _ _ _ (names ++ [s]) _ (by omega) (by omega) (rel_new hR s c c2 _) (by omega) (by simp [ha]) (by rw [List.length_append, List.length_singleton]; omega)
theorem symStrs_long (r : List ByteArray) : ∀ m b at_, (∃ s ∈ r, s.size > 255) → symStrs r m b at_ = ([], [], 6) := by
  induction r with
  | nil => intro m b at_ h; simp at h
  | cons s r ih =>
    intro m b at_ h
    simp only [symStrs]
    split
    · rfl
    · have h2 : ∃ s ∈ r, s.size > 255 := by
        obtain ⟨x, hx, hs⟩ := h
        rcases List.mem_cons.1 hx with rfl | hx
        · omega
        · exact ⟨x, hx, hs⟩
      split
      · exact ih _ _ _ h2
      · exact ih _ _ _ h2
theorem rstr_l0 (l : List ByteArray) (hl : l.length ≤ 1099511627776) (hm : ∀ s ∈ l, s.size ≤ 1048576) (r : List Int × List Int × Int) (hr : r = if symZero l then ([], [], 80) else symStrs l [([], 0)] [0] []) (d : Nat) : ∀ k i long, i + d = l.length → 2 * l.length + d + 1048586 ≤ k →
    symZero (l.take i) = false → (long = true ↔ ∃ s ∈ l.take i, s.size > 255) → gangwayref08_Strings.l0 k l long (i : Int) = some r := by
  induction d with
  | zero =>
    intro k i long h1 h2 hz hlong
    obtain ⟨k, rfl⟩ : ∃ m, k = m + 1 := ⟨k - 1, by omega⟩
    obtain rfl : i = l.length := by omega
    rw [List.take_length] at hz hlong
    rw [hz, if_neg (by decide)] at hr
    simp only [gangwayref08_Strings.l0]
    rw [if_neg (by omega)]
    by_cases c : long = true
    · rw [if_pos c, hr, symStrs_long l _ _ _ (hlong.1 c)]
    · rw [if_neg c, hr]
      have := rstr_l1 l hl (fun s hs => by
        have : ¬ s.size > 255 := fun h => c (hlong.2 ⟨s, hs, h⟩)
        omega) l.length k 0 [([], 0)] [0] [] [] [] (by omega) (by omega) ⟨rfl, rfl, fun s hs => by rw [Own.look_cons, if_neg (fun e => hs e.symm)]; rfl⟩ (by simp) rfl (by simp)
      simpa using this
  | succ d ih =>
    intro k i long h1 h2 hz hlong
    obtain ⟨k, rfl⟩ : ∃ m, k = m + 1 := ⟨k - 1, by omega⟩
    have hlt : i < l.length := by omega
    have hsz := hm _ (List.getElem_mem hlt)
    simp only [gangwayref08_Strings.l0]
    rw [if_pos (by omega), if_pos (by omega), rdOf_get l i hlt, rzero_f l[i] (by omega) k (by omega), Option.bind_some, wrap64_id (n := (i : Int) + 1) (by omega) (by omega), show (i : Int) + 1 = ((i + 1 : Nat) : Int) from by omega]
    by_cases c : (0 : UInt8) ∈ l[i].data.toList
    · rw [decide_eq_true c, if_pos rfl, hr, if_pos ((symZero_iff l).2 ⟨l[i], List.getElem_mem hlt, c⟩)]
    · rw [decide_eq_false c, if_neg (by decide)]
      have hz2 : symZero (l.take (i + 1)) = false := by
        rw [Bool.eq_false_iff]
        intro h
        obtain ⟨s, hs, h0⟩ := (symZero_iff _).1 h
        rw [List.take_succ_eq_append_getElem hlt] at hs
        rcases List.mem_append.1 hs with hs | hs
        · have := (symZero_iff (l.take i)).2 ⟨s, hs, h0⟩
          rw [hz] at this
          cases this
        · rw [List.mem_singleton] at hs
          exact c (hs ▸ h0)
      by_cases c2 : long = true
      · rw [if_pos c2]
        refine ih k (i + 1) true (by omega) (by omega) hz2 ⟨fun _ => ?_, fun _ => rfl⟩
        obtain ⟨s, hs, h⟩ := hlong.1 c2
        exact ⟨s, by rw [List.take_succ_eq_append_getElem hlt]; exact List.mem_append_left _ hs, h⟩
      · rw [if_neg c2]
        refine ih k (i + 1) _ (by omega) (by omega) hz2 ?_
        rw [decide_eq_true_eq, List.take_succ_eq_append_getElem hlt]
        refine ⟨fun h => ⟨l[i], List.mem_append_right _ (List.mem_singleton.2 rfl), by omega⟩, fun ⟨s, hs, h⟩ => ?_⟩
        rcases List.mem_append.1 hs with hs | hs
        · exact absurd (hlong.2 ⟨s, hs, h⟩) c2
        · rw [List.mem_singleton] at hs
          subst hs
          omega
theorem rstr_f (l : List ByteArray) (hl : l.length ≤ 1048576) (hm : ∀ s ∈ l, s.size ≤ 1048576) (hs : (l.map ByteArray.size).sum ≤ 1099511627776) (k : Nat) (hk : 3 * l.length + 1048586 ≤ k) : gangwayref08_Strings.f k l = symtab_Strings.f l := by
  unfold symtab_Strings.f
  rw [if_pos ⟨by omega, hs⟩]
  exact rstr_l0 l (by omega) hm _ rfl l.length k 0 false (by omega) (by omega) rfl (by simp)
end Go.Proofs.Ytejdnanhnkjaoaa.Sym
