/- Each theorem here says what a call of one Go function returns, and what it leaves of the memory, for the arguments that its hypotheses name. Printed by a driver of this session over the kit's printer; what stands behind GIVENBYHAND is this session's own text. -/
import Derived.Test.YtejdnanhnkjaoaaG0
import Derived.Test.YtejdnanhnkjaoaaGfM
import Derived.Test.YtejdnanhnkjaoaaMaps
namespace Go.Proofs.Ytejdnanhnkjaoaa.G
open Go.RowKit Go.Proofs.YtejdnanhnkjaoaaW.PrintWords Go.Proofs.YtejdnanhnkjaoaaW.PrintLast Go.Proofs.YtejdnanhnkjaoaaW.PrintMore
attribute [local go_sem] max2_int min2_int max_two min_two max_three min_three max_four min_four   -- for this text's walks alone
set_option linter.unusedVariables false
set_option linter.unusedSimpArgs false

/-! ### symtab_Strings: function 12 -/
-- GIVENBYHAND Derived.Test.@N@Maps
/-- the second loop -/
def symStrs : List ByteArray → List (List UInt8 × Int) → List Int → List Int → List Int × List Int × Int
  | [], _, b, at_ => if b.length > 1048576 then ([], [], 6) else (b, at_, 0)
  | s :: r, m, b, at_ =>
    if s.size > 255 then ([], [], 6) else
    match Own.look m s.data.toList with
    | some k => symStrs r m b (at_ ++ [k])
    | none => symStrs r ((s.data.toList, (b.length : Int)) :: m) (b ++ bytesOf s ++ [0]) (at_ ++ [(b.length : Int)])
def symZero : List ByteArray → Bool
  | [] => false
  | s :: r => if 0 ≤ Lib.indexByte s.data.toList 0 then true else symZero r
def symtab_Strings.f (l0 : List ByteArray) : Option (List Int × List Int × Int) :=
  if l0.length ≤ 1099511627776 ∧ (l0.map ByteArray.size).sum ≤ 1099511627776 then some (if symZero l0 then ([], [], 80) else symStrs l0 [([], 0)] [0] []) else none
theorem symZero_drop (l : List ByteArray) (i : Nat) (hi : i < l.length) : symZero (l.drop i) = if 0 ≤ Lib.indexByte (rdOf ByteArray.empty l (i : Int)).data.toList 0 then true else symZero (l.drop (i + 1)) := by
  rw [List.drop_eq_getElem_cons hi]
  simp only [symZero]
  have : rdOf ByteArray.empty l (i : Int) = l[i] := by simp [rdOf, List.getD, hi]
  rw [this]
theorem symtab_Strings.first (A0 : Option Addr) (c0 : Nat) (l0 : List ByteArray) (w : World) (hr0 : Kd.C Kd.string w A0 l0.length l0) (hc0 : l0.length ≤ c0) (hz : symZero l0 = true) (hl : l0.length ≤ 1099511627776) :
    Calls Try.prog 12 #[.slice A0 l0.length c0] w fun e w' => e = .returned (.tuple #[.slice none 0 0, .slice none 0 0, .int .i64 80]) ∧ w = w' := by
  have HR0 := Aside0.mk hr0
  have HZ := Aside0.mk hz
  clear hr0 hz
  go_enter Try.func12, Try.ntmps12
  go_wp2
  go_loop [14] (fun i => ∃ n : Nat, n ≤ l0.length ∧ i = .int .i64 (n : Int) ∧ Aside0 (symZero (l0.drop n) = true)) (fun i => l0.length - (intOf i).toNat)
  case atStart => exact ⟨0, by omega, rfl, HZ⟩
  case round =>
    obtain ⟨n, hn, rfl, HA⟩ := hrel
    by_cases hlt : n < l0.length
    · have hltb : decide ((n : Int) < (l0.length : Int)) = true := by simp; omega
      obtain ⟨ad, rfl, hx⟩ := Kd.at_string HR0.out (n : Int) (by omega) (by omega)
      rw [Int.toNat_natCast] at hx
      have h := HA.out
      rw [symZero_drop _ _ hlt] at h
      generalize rdOf ByteArray.empty l0 (n : Int) = s at hx h
      by_cases hc : 0 ≤ Lib.indexByte s.data.toList 0
      · have hcb : decide (Lib.indexByte s.data.toList (0 : Int).toNat.toUInt8 ≥ 0) = true := by simpa using hc
        clear h
        go_wp2_with fail
        refine (strings_IndexByte.same s 0 _).mono ?_
        rintro e w' ⟨rfl, rfl⟩
        go_wp2
        go_ret3
        exact ⟨rfl, rfl⟩
      · have hcb : decide (Lib.indexByte s.data.toList (0 : Int).toNat.toUInt8 ≥ 0) = false := by simpa using hc
        rw [if_neg hc] at h
        replace h := Aside0.mk h
        go_wp2_with fail
        refine (strings_IndexByte.same s 0 _).mono ?_
        rintro e w' ⟨rfl, rfl⟩
        go_wp2
        go_round
        case rel => exact ⟨n + 1, by omega, by go_num, h⟩
        case measure =>
          have h1 : wrap64 ((n : Int) + 1) = n + 1 := by unfold wrap64; omega
          simp [intOf, h1]
          omega
    · have h := HA.out
      rw [List.drop_of_length_le (by omega)] at h
      cases h
theorem symZero_false (l : List ByteArray) (i : Nat) (hi : i < l.length) (h : symZero (l.drop i) = false) : ¬ 0 ≤ Lib.indexByte (rdOf ByteArray.empty l (i : Int)).data.toList 0 ∧ symZero (l.drop (i + 1)) = false := by
  rw [symZero_drop l i hi] at h
  split at h
  · cases h
  · exact ⟨‹_›, h⟩
theorem symStrs_drop (l : List ByteArray) (i : Nat) (hi : i < l.length) (m : List (List UInt8 × Int)) (b at_ : List Int) : symStrs (l.drop i) m b at_ =
    if (rdOf ByteArray.empty l (i : Int)).size > 255 then ([], [], 6) else
    match Own.look m (rdOf ByteArray.empty l (i : Int)).data.toList with
    | some k => symStrs (l.drop (i + 1)) m b (at_ ++ [k])
    | none => symStrs (l.drop (i + 1)) (((rdOf ByteArray.empty l (i : Int)).data.toList, (b.length : Int)) :: m) (b ++ bytesOf (rdOf ByteArray.empty l (i : Int)) ++ [0]) (at_ ++ [(b.length : Int)]) := by
  have : rdOf ByteArray.empty l (i : Int) = l[i] := by simp [rdOf, List.getD, hi]
  rw [List.drop_eq_getElem_cons hi, this]
  rfl
theorem sizes_drop (l : List ByteArray) (i : Nat) (hi : i < l.length) : ((l.drop i).map ByteArray.size).sum = (rdOf ByteArray.empty l (i : Int)).size + ((l.drop (i + 1)).map ByteArray.size).sum := by
  have : rdOf ByteArray.empty l (i : Int) = l[i] := by simp [rdOf, List.getD, hi]
  rw [List.drop_eq_getElem_cons hi, this, List.map_cons, List.sum_cons]
theorem zero3 (w : World) : (zeroValue 3).run Try.prog w = .ok (.int .i64 0) w := by kernel_rfl
theorem symtab_Strings.second (A0 : Option Addr) (c0 : Nat) (l0 : List ByteArray) (r1 r2 : List Int) (r3 : Int) (w : World) (hr0 : Kd.C Kd.string w A0 l0.length l0) (hc0 : l0.length ≤ c0) (hz : symZero l0 = false) (hl : l0.length ≤ 1099511627776) (hs : (l0.map ByteArray.size).sum ≤ 1099511627776)
    (hr : symStrs l0 [([], 0)] [0] [] = (r1, r2, r3)) :
    Calls Try.prog 12 #[.slice A0 l0.length c0] w fun e w' => ∃ v0_ v1_ : Value, e = .returned (.tuple #[v0_, v1_, .int .i64 r3]) ∧ Kd.R (Kd.int .u8) 5 w' w.heap.size (fun _ => True) v0_ r1 ∧ Kd.R (Kd.int .i64) 3 w' w.heap.size (fun _ => True) v1_ r2 ∧ Below w.heap.size w w' := by
  have HR0 := Aside0.mk hr0
  have HZ := Aside0.mk hz
  have HS := Aside0.mk hs
  have HH := Aside0.mk hr
  clear hr0 hz hs hr
  have HB := Aside0.mk (Below.refl w.heap.size w)
  have hmm := @run_makeMap Try.prog
  have KEY := Go.Maps.string_keyed Try.underlying9
  go_enter Try.func12, Try.ntmps12
  go_wp2
  go_loop [3, 14] (fun v3 i => v3 = .slice none 0 0 ∧ ∃ n : Nat, n ≤ l0.length ∧ i = .int .i64 (n : Int) ∧ Aside0 (symZero (l0.drop n) = false)) (fun _ i => l0.length - (intOf i).toNat)
  case atStart => exact ⟨rfl, 0, by omega, rfl, HZ⟩
  case round =>
    obtain ⟨rfl, n, hn, rfl, HA⟩ := hrel
    by_cases hlt : n < l0.length
    · have hltb : decide ((n : Int) < (l0.length : Int)) = true := by simp; omega
      obtain ⟨ad, rfl, hx⟩ := Kd.at_string HR0.out (n : Int) (by omega) (by omega)
      rw [Int.toNat_natCast] at hx
      obtain ⟨hc, h⟩ := symZero_false _ _ hlt HA.out
      replace h := Aside0.mk h
      generalize rdOf ByteArray.empty l0 (n : Int) = s at hx hc
      have hcb : decide (Lib.indexByte s.data.toList (0 : Int).toNat.toUInt8 ≥ 0) = false := by simpa using hc
      go_wp2_with fail
      refine (strings_IndexByte.same s 0 _).mono ?_
      rintro e w' ⟨rfl, rfl⟩
      go_wp2
      go_round
      case rel => exact ⟨rfl, n + 1, by omega, by go_num, h⟩
      case measure =>
        have h1 : wrap64 ((n : Int) + 1) = n + 1 := by unfold wrap64; omega
        simp [intOf, h1]
        omega
    · have hltb : decide ((n : Int) < (l0.length : Int)) = false := by simp; omega
      clear HA HZ
      go_wp2_with (first
        | ((with_reducible refine gate_dst (N := 24) rfl ?_); refine Kd.R_lit (Kd.int .u8) (w0 := w) w.heap.size 5 ?hg (N := 24) ?hd (xs := ([0] : List Int)) (inner := [.int .u8 0]) (ok := fun _ => True) (okp := fun _ => True) ?hr ?hp (fun _ hk => hk) trivial ?hB ?hS (by simp) ?_; (case hd => rfl); (case hg => rfl); (case hr => first | (go_simp; done) | (go_simp; rfl)); (case hp => exact (Reps.one (show Kd.M (Kd.int .u8) _ _ _ 0 [.int .u8 0] from rfl) (Reps.none _ _))); (case hB => exact HB.out); (case hS => exact below_size HB.out); intro v24 w2 ho2 hb2 hg2 hnew2; have n0_ := Aside0.mk (HM.out.kept hg2 (fun h => by cases h)); have n1_ := Aside0.mk hb2; have HO := Aside0.mk ho2; clear HM HB; have HM := n0_; have HB := n1_; clear n0_ n1_ hb2 hg2 hnew2 ho2)
        | (refine Own.wp_put _ rfl _ _ _ 61 (.inr rfl) 9 3 KEY Try.underlying61 Try.underlying3 w.heap.size 0 (Own.strF []) rfl ?hown (by simp [maxLen]) (.string ⟨#[]⟩) (.string []) 0 rfl rfl ?hkey (by decide) ?_; (case hown => exact Own.MapF.made0 _ _ _ _); (case hkey => exact Go.WideMaps.keyOf_string_mk Try.underlying9 (s := ⟨#[]⟩) (by decide)); intro w1 hm1 hg1; rw [Own.putF_strF] at hm1; have n1_ := Aside0.mk ((below_alloc HB.out (.map #[] 0)).grown hg1 (below_size (below_alloc HB.out (.map #[] 0))) (fun k hk => by cases hk; exact Nat.le_refl _)); have HM := Aside0.mk hm1; clear HB; have HB := n1_; clear n1_ hm1 hg1))
      clear hltb hlt hn
      go_loopg [2, 3, 27] l0.length (fun kq v2 v3 i w' => ∃ (n : Nat) (m : List (List UInt8 × Int)) (bs ats : List Int), n + kq = l0.length ∧ i = .int .i64 (n : Int) ∧ Aside0 (symStrs (l0.drop n) m bs ats = (r1, r2, r3)) ∧ Aside0 (bs.length + ((l0.drop n).map ByteArray.size).sum + kq ≤ 2199023255553) ∧ Aside0 (ats.length = n) ∧ Aside0 (Kd.R (Kd.int .u8) 5 w' w.heap.size (fun _ => True) v2 bs) ∧ Aside0 (Kd.R (Kd.int .i64) 3 w' w.heap.size (fun _ => True) v3 ats) ∧ Aside0 (Own.MapF Try.prog 9 3 w' w.heap.size (n + 1) (Own.strF m)) ∧ Aside0 (Below w.heap.size w w'))
      case atStart => exact ⟨0, [([], 0)], [0], [], by omega, rfl, HH, ⟨by have := HS.out; simp at this ⊢; omega⟩, ⟨rfl⟩, HO, ⟨Kd.R_nil _ _ _ _ _⟩, HM, HB⟩
      case round =>
        clear HO HM HB HH
        obtain ⟨n, m, bs, ats, hn, rfl, HH, HS2, HL, HO2, HO3, HM, HB⟩ := hrel
        cases gk with
        | zero =>
          have hltb : decide ((n : Int) < (l0.length : Int)) = false := by simp; omega
          have h := HH.out
          rw [List.drop_of_length_le (by omega)] at h
          simp only [symStrs] at h
          obtain ⟨Ab, cb, rfl⟩ := Kd.R_slice HO2.out
          by_cases hc : bs.length > 1048576
          · rw [if_pos hc] at h
            cases h
            have hcb : decide ((bs.length : Int) > 1048576) = true := by simp; omega
            go_wp2
            go_ret3
            exact ⟨_, _, rfl, Kd.R_nil _ _ _ _ _, Kd.R_nil _ _ _ _ _, HB.out⟩
          · rw [if_neg hc] at h
            have hcb : decide ((bs.length : Int) > 1048576) = false := by simp; omega
            cases h
            go_wp2
            go_ret3
            exact ⟨_, _, rfl, HO2.out, HO3.out, HB.out⟩
        | succ gk =>
          have hltb : decide ((n : Int) < (l0.length : Int)) = true := by simp; omega
          obtain ⟨ad, rfl, hx⟩ := Kd.at_string HR0.out (n : Int) (by omega) (by omega)
          rw [Int.toNat_natCast] at hx
          have hxw := (HB.out.cell (World.block_lt_of_cell? w _ hx)).trans hx
          have h := HH.out
          have h2 := HS2.out
          rw [symStrs_drop _ _ (by omega)] at h
          rw [sizes_drop _ _ (by omega)] at h2
          clear HH HS2 hx
          generalize rdOf ByteArray.empty l0 (n : Int) = s at hxw h h2
          by_cases hc : s.size > 255
          · rw [if_pos hc] at h
            cases h
            have hcb : decide ((s.size : Int) > 255) = true := by simp; omega
            clear h2
            go_wp2
            go_ret3
            exact ⟨_, _, rfl, Kd.R_nil _ _ _ _ _, Kd.R_nil _ _ _ _ _, HB.out⟩
          · rw [if_neg hc] at h
            have hcb : decide ((s.size : Int) > 255) = false := by simp; omega
            have hkey := Go.WideMaps.keyOf_string_mk (P := Try.prog) Try.underlying9 (s := s) (by simp only [maxLen]; omega)
            have hlook := HM.out.look_ok KEY Try.underlying61 Try.underlying3 (zero3 wr) hkey
            simp only [Own.strF] at hlook
            obtain ⟨Ab, cb, rfl⟩ := Kd.R_slice HO2.out
            cases hm : Own.look m s.data.toList with
            | some c =>
              rw [hm] at h hlook
              simp only [Option.getD_some, Option.isSome_some] at h hlook
              replace h := Aside0.mk h
              clear hkey hm
              go_wp2_with (first
                | ((with_reducible refine gate_builtin (b := .append) (xs := #[.tmp 52, .tmp 54]) rfl ?_); at_builtin; refine Kd.R_append (Kd.int .i64) (w0 := w) w.heap.size rfl (.tmp 52) (.tmp 54) 28 3 (.int .i64 0) 8 rfl Try.underlying28 info3 rfl (by decide) (by omega) u3 ats c [.int .i64 c] (fun _ => True) (fun _ => False) rfl rfl ?aP (fun _ hk => hk.elim) ?aF ?aO ?aB ?aS ?aL ?_; (case aP => exact rfl); (case aB => exact HB.out); (case aF => exact fun _ _ => trivial); (case aO => exact HO3.out); (case aS => exact below_size HB.out); (case aL => have := HL.out; omega); intro v3 w3 ho hb hg hat; have n0_ := Aside0.mk (Kd.R_over' HO2.out (Kd.R_typed HO3.out) (by decide) hg); have n1_ := Aside0.mk (HM.out.over (Kd.R_typed HO3.out) hg); clear HO2 HM HB HO3; have HO2 := n0_; have HM := n1_; have HB := Aside0.mk hb; have HO3 := Aside0.mk ho; clear n0_ n1_ ho hb hg hat))
              go_roundg gk
              case measure => omega
              case rel => exact ⟨n + 1, m, bs, ats ++ [c], by omega, by go_num, h, ⟨by omega⟩, ⟨by have := HL.out; simp; omega⟩, HO2, HO3, ⟨HM.out.mono (by omega)⟩, HB⟩
            | none =>
              rw [hm] at h hlook
              simp only [Option.getD_none, Option.isSome_none] at h hlook
              replace h := Aside0.mk h
              clear hm
              go_wp2_with (first
                | ((with_reducible refine gate_builtin (b := .append) (xs := #[.tmp 52, .tmp 54]) rfl ?_); at_builtin; refine Kd.R_append (Kd.int .i64) (w0 := w) w.heap.size rfl (.tmp 52) (.tmp 54) 28 3 (.int .i64 0) 8 rfl Try.underlying28 info3 rfl (by decide) (by omega) u3 ats (bs.length : Int) [.int .i64 (bs.length : Int)] (fun _ => True) (fun _ => False) rfl rfl ?aP (fun _ hk => hk.elim) ?aF ?aO ?aB ?aS ?aL ?_; (case aP => exact rfl); (case aB => exact HB.out); (case aF => exact fun _ _ => trivial); (case aO => exact HO3.out); (case aS => exact below_size HB.out); (case aL => have := HL.out; omega); intro v3 w3 ho hb hg hat; have n0_ := Aside0.mk (Kd.R_over' HO2.out (Kd.R_typed HO3.out) (by decide) hg); have n1_ := Aside0.mk (HM.out.over (Kd.R_typed HO3.out) hg); clear HO2 HM HB HO3; have HO2 := n0_; have HM := n1_; have HB := Aside0.mk hb; have HO3 := Aside0.mk ho; clear n0_ n1_ ho hb hg hat)
                | ((with_reducible refine gate_builtin (b := .append) (xs := #[.tmp 49, .tmp 50]) rfl ?_); at_builtin; refine Kd.R_append (Kd.int .u8) (w0 := w) w.heap.size rfl (.tmp 49) (.tmp 50) 24 5 (.int .u8 0) 1 rfl Try.underlying24 info5 rfl (by decide) (by omega) va (bs ++ bytesOf s) 0 [.int .u8 0] (fun _ => True) (fun _ => False) rfl rfl ?aP (fun _ hk => hk.elim) ?aF ?aO ?aB ?aS ?aL ?_; (case aP => exact rfl); (case aB => exact HB.out); (case aF => exact fun _ _ => trivial); (case aO => exact HO2.out); (case aS => exact below_size HB.out); (case aL => rw [List.length_append, bytesOf_length]; omega); intro v2 w3 ho hb hg hat; have n0_ := Aside0.mk (Kd.R_over' HO3.out (Kd.R_typed HO2.out) (by decide) hg); have n1_ := Aside0.mk (HM.out.over (Kd.R_typed HO2.out) hg); clear HO3 HM HB HO2; have HO3 := n0_; have HM := n1_; have HB := Aside0.mk hb; have HO2 := Aside0.mk ho; clear n0_ n1_ ho hb hg hat)
                | ((with_reducible refine gate_builtin (b := .append) (xs := #[.tmp 47, .tmp 48]) rfl ?_); at_builtin; refine print_append_str (w0 := w) w.heap.size rfl (.tmp 47) _ 24 9 5 rfl Try.underlying24 Try.underlying9 info5 (.slice Ab bs.length cb) bs s rfl rfl ?aO ?aB ?aS ?aL ?_; (case aB => exact HB.out); (case aO => exact Kd.own_of_R HO2.out); (case aS => exact below_size HB.out); (case aL => omega); intro va w3 ho0 hb hg; have ho := Kd.R_of_own (h1 := fun _ => rfl) (ok := fun _ => True) ho0 (fun _ _ => trivial); clear ho0; have n0_ := Aside0.mk (Kd.R_over' HO3.out (Kd.R_typed HO2.out) (by decide) hg); have n1_ := Aside0.mk (HM.out.over (Kd.R_typed HO2.out) hg); clear HO3 HM HB HO2; have HO3 := n0_; have HM := n1_; have HB := Aside0.mk hb; have HO2 := Aside0.mk ho; clear n0_ n1_ ho hb hg)
                | (refine Own.wp_put _ rfl _ _ _ 61 (.inl rfl) 9 3 KEY Try.underlying61 Try.underlying3 w.heap.size (n + 1) (Own.strF m) rfl HM.out (by simp only [maxLen]; omega) (.string s) (.string s.data.toList) (bs.length : Int) rfl rfl hkey (Own.wf64 (by omega) (by omega)) ?_; intro w3 hm1 hg1; rw [Own.putF_strF] at hm1; have n0_ := Aside0.mk (Own.R_overMap HO2.out HM.out hg1); have n2_ := Aside0.mk (Own.R_overMap HO3.out HM.out hg1); have n1_ := Aside0.mk (HB.out.grown hg1 (below_size HB.out) (fun k hk => by cases hk; exact Nat.le_refl _)); clear HO2 HO3 HM HB; have HO2 := n0_; have HO3 := n2_; have HB := n1_; have HM := Aside0.mk hm1; clear n0_ n1_ n2_ hm1 hg1))
              go_roundg gk
              case measure => omega
              case rel => exact ⟨n + 1, (s.data.toList, (bs.length : Int)) :: m, bs ++ bytesOf s ++ [0], ats ++ [(bs.length : Int)], by omega, by go_num, h, ⟨by rw [List.length_append, List.length_append, bytesOf_length]; simp only [List.length_singleton]; omega⟩, ⟨by have := HL.out; simp; omega⟩, HO2, HO3, HM, HB⟩
theorem symtab_Strings.calls (A0 : Option Addr) (c0 : Nat) (l0 : List ByteArray) (r1 : List Int) (r2 : List Int) (r3 : Int) (w : World) (hr0 : Kd.C Kd.string w A0 l0.length l0) (hc0 : l0.length ≤ c0) (h : symtab_Strings.f l0 = some (r1, r2, r3)) :
    Calls Try.prog 12 #[.slice A0 l0.length c0] w fun e w' => ∃ v0_ v1_ : Value, e = .returned (.tuple #[v0_, v1_, .int .i64 r3]) ∧ Kd.R (Kd.int .u8) 5 w' w.heap.size (fun _ => True) v0_ r1 ∧ Kd.R (Kd.int .i64) 3 w' w.heap.size (fun _ => True) v1_ r2 ∧ Below w.heap.size w w' := by
  unfold symtab_Strings.f at h
  split at h
  case isFalse => cases h
  rename_i hl
  replace h := Option.some.inj h
  cases hz : symZero l0 with
  | true =>
    rw [hz, if_pos rfl] at h
    cases h
    refine (symtab_Strings.first A0 c0 l0 w hr0 hc0 hz hl.1).mono ?_
    rintro e w' ⟨rfl, rfl⟩
    exact ⟨_, _, rfl, Kd.R_nil _ _ _ _ _, Kd.R_nil _ _ _ _ _, Below.refl _ _⟩
  | false =>
    rw [hz, if_neg (by decide)] at h
    exact symtab_Strings.second A0 c0 l0 r1 r2 r3 w hr0 hc0 hz hl.1 hl.2 h


end Go.Proofs.Ytejdnanhnkjaoaa.G
