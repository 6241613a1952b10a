/- CfaBack: the plain statement: what is written is read as it was. -/
import Derived.Test.YtngddlihppomhaaStmtCfaBack
import Derived.Test.YtngddlihppomhaaCfaBytesP
import Derived.Test.YtngddlihppomhaaLebGet
import Derived.Test.YtngddlihppomhaaLebReadP
import Derived.Test.YtngddlihppomhaaCfaRead
namespace Go.Proofs.Ytngddlihppomhaa.Pure
set_option linter.unusedVariables false
set_option linter.unusedSimpArgs false
open Go.RowKit Go.Proofs.Ytngddlihppomhaa.G Go.Proofs.Ytngddlihppomhaa.Stmt Go.Proofs.YtngddlihppomhaaW.PrintWords Go.Proofs.YtngddlihppomhaaW.PrintLast Go.Proofs.YtngddlihppomhaaW.PrintMore Go.Proofs.Ytngddlihppomhaa.Bit Go.Proofs.Ytngddlihppomhaa.Leb Go.Proofs.Ytngddlihppomhaa.Cfa Go.Proofs.Ytngddlihppomhaa.CfaBP Go.Proofs.Ytngddlihppomhaa.CfaRd
theorem uR_at (a : Int) (h0 : -9223372036854775808 ≤ a) (h1 : a ≤ 9223372036854775807) (ahead behind l : List Int) (hl : l = ahead ++ U a ++ behind) (i : Int) (hi : i = ahead.length) : uR l i = some (a, i + (U a).length) := by
  subst hl hi
  unfold uR
  have := readU_back a h0 h1 ahead behind
  rw [show U a = ulebL (a % 18446744073709551616).toNat from rfl, this]
  rfl
theorem sR_at (a : Int) (h0 : -9223372036854775808 ≤ a) (h1 : a ≤ 9223372036854775807) (ahead behind l : List Int) (hl : l = ahead ++ slebL a ++ behind) (i : Int) (hi : i = ahead.length) : sR l i = some (a, i + (slebL a).length) := by
  subst hl hi
  unfold sR
  rw [readS_back a h0 h1 ahead behind]
  rfl
theorem nR_at (s : Nat) (hs : s = 1 ∨ s = 2 ∨ s = 4) (g ahead behind l : List Int) (hg : g.length = s) (hl : l = ahead ++ g ++ behind) (hb : ∀ b ∈ l, 0 ≤ b ∧ b ≤ 255) (hn : ahead.length ≤ 2000000) (hm : l.length ≤ 9223372036854775807) (i : Int) (hi : i = ahead.length) : nR l i s = some (leN g) := by
  subst hi
  have hcut : (l.drop ahead.length).take s = g := by
    rw [hl, List.append_assoc, List.drop_left, ← hg, List.take_left]
  have hr := leN_range g (fun b hb' => hb b (by rw [hl]; simp [hb']))
  have hw : wrap64 (leN g) = leN g := by
    rw [hg] at hr
    rcases hs with rfl | rfl | rfl <;> simp at hr <;> (unfold wrap64; omega)
  have hz : sizedB (s : Int) = true := by rcases hs with rfl | rfl | rfl <;> decide
  have hlen : l.length = ahead.length + s + behind.length := by rw [hl]; simp [hg]; omega
  unfold nR
  rw [if_pos (by omega), get_f l _ _ false hb hm 12 (by omega)]
  unfold getV
  rw [if_pos hz, if_neg (by omega), Int.toNat_natCast, Int.toNat_natCast, hcut]
  unfold sgnV
  simp [hw]
theorem rd_mid (ahead rest l : List Int) (c : Int) (hl : l = ahead ++ c :: rest) : rd l (ahead.length : Int) = c := by
  subst hl
  simp [rd, List.getD]
theorem may0 {k r n : Int} (hk : k = 0 ∨ k = 9 ∨ k = 10) (h : mayF k r n = true) : r = 0 ∧ n = 0 := by
  unfold mayF at h
  rw [if_pos hk] at h
  simpa using h
theorem may13 {k r n : Int} (hk : k = 1 ∨ k = 3) (h : mayF k r n = true) : r = 0 ∧ 0 ≤ n ∧ n ≤ 2147483647 := by
  unfold mayF at h
  rw [if_neg (by omega), if_pos hk] at h
  simpa using h
theorem may2 {r n : Int} (h : mayF 2 r n = true) : 0 ≤ r ∧ r ≤ 16 ∧ 0 ≤ n ∧ n ≤ 2147483647 := by
  unfold mayF at h
  rw [if_neg (by omega), if_neg (by omega), if_pos rfl] at h
  simpa using h
theorem may4 {k r n : Int} (hk : k = 4 ∨ k = 6 ∨ k = 7 ∨ k = 8) (h : mayF k r n = true) : n = 0 ∧ 0 ≤ r ∧ r ≤ 16 := by
  unfold mayF at h
  rw [if_neg (by omega), if_neg (by omega), if_neg (by omega), if_pos hk] at h
  simpa using h
theorem may_kind {k r n : Int} (h : mayF k r n = true) : (k = 0 ∨ k = 9 ∨ k = 10) ∨ (k = 1 ∨ k = 3) ∨ k = 2 ∨ (k = 4 ∨ k = 6 ∨ k = 7 ∨ k = 8) ∨ k = 5 := by
  by_cases h1 : k = 0 ∨ k = 9 ∨ k = 10
  · exact .inl h1
  by_cases h2 : k = 1 ∨ k = 3
  · exact .inr (.inl h2)
  by_cases h3 : k = 2
  · exact .inr (.inr (.inl h3))
  by_cases h4 : k = 4 ∨ k = 6 ∨ k = 7 ∨ k = 8
  · exact .inr (.inr (.inr (.inl h4)))
  by_cases h5 : k = 5
  · exact .inr (.inr (.inr (.inr h5)))
  unfold mayF at h
  rw [if_neg h1, if_neg h2, if_neg h3, if_neg h4, if_neg h5] at h
  cases h
/-- An op's bytes are read as the op. -/
theorem read_op {k r n : Int} (h : mayF k r n = true) (ahead behind l : List Int) (hl : l = ahead ++ opB k r n ++ behind) (hb : ∀ b ∈ l, 0 ≤ b ∧ b ≤ 255) (hn : ahead.length ≤ 1000000) (hm : l.length ≤ 9223372036854775807) :
    opR l (rd l (ahead.length : Int)) ((ahead.length : Int) + 1) = some ((k, r, n), (ahead.length : Int) + (opB k r n).length) := by
  rcases may_kind h with hk | hk | hk | hk | hk
  · obtain ⟨rfl, rfl⟩ := may0 hk h
    rcases hk with rfl | rfl | rfl
    · rw [rd_mid ahead behind l 0 (by rw [hl]; simp [opB])]; simp [opR, opB]
    · rw [rd_mid ahead behind l 10 (by rw [hl]; simp [opB])]; simp [opR, opB]
    · rw [rd_mid ahead behind l 11 (by rw [hl]; simp [opB])]; simp [opR, opB]
  · obtain ⟨rfl, h0, h1⟩ := may13 hk h
    rcases hk with rfl | rfl
    · have ho : opB 1 0 n = advB n := by simp [opB]
      rw [ho] at hl ⊢
      unfold advB at hl ⊢
      by_cases c1 : n < 64
      · rw [if_pos c1] at hl ⊢
        rw [rd_mid ahead behind l ((64 + n) % 256) (by rw [hl]; simp)]
        unfold opR
        rw [if_pos (by omega), show (64 + n) % 256 - 64 = n from by omega]
        rfl
      rw [if_neg c1] at hl ⊢
      by_cases c2 : n < 256
      · rw [if_pos c2] at hl ⊢
        rw [rd_mid ahead ([n % 256] ++ behind) l 2 (by rw [hl]; simp)]
        have e := nR_at 1 (by omega) [n % 256] (ahead ++ [2]) behind l rfl (by rw [hl]; simp) hb (by simp; omega) hm ((ahead.length : Int) + 1) (by simp)
        simp only [leN] at e
        rw [show n % 256 + 256 * 0 = n from by omega] at e
        simp [opR, show nR l ((ahead.length : Int) + 1) 1 = some n from e]
        omega
      rw [if_neg c2] at hl ⊢
      by_cases c3 : n < 65536
      · rw [if_pos c3] at hl ⊢
        rw [rd_mid ahead ([n % 256, n / 256 % 256] ++ behind) l 3 (by rw [hl]; simp)]
        have e := nR_at 2 (by omega) [n % 256, n / 256 % 256] (ahead ++ [3]) behind l rfl (by rw [hl]; simp) hb (by simp; omega) hm ((ahead.length : Int) + 1) (by simp)
        simp only [leN] at e
        rw [show n % 256 + 256 * (n / 256 % 256 + 256 * 0) = n from by omega] at e
        simp [opR, show nR l ((ahead.length : Int) + 1) 2 = some n from e]
        omega
      rw [if_neg c3] at hl ⊢
      rw [rd_mid ahead ([n % 256, n / 256 % 256, n / 65536 % 256, n / 16777216 % 256] ++ behind) l 4 (by rw [hl]; simp)]
      have e := nR_at 4 (by omega) [n % 256, n / 256 % 256, n / 65536 % 256, n / 16777216 % 256] (ahead ++ [4]) behind l rfl (by rw [hl]; simp) hb (by simp; omega) hm ((ahead.length : Int) + 1) (by simp)
      simp only [leN] at e
      rw [show n % 256 + 256 * (n / 256 % 256 + 256 * (n / 65536 % 256 + 256 * (n / 16777216 % 256 + 256 * 0))) = n from by omega] at e
      simp [opR, show nR l ((ahead.length : Int) + 1) 4 = some n from e]
      omega
    · have ho : opB 3 0 n = [14] ++ U n := by simp [opB]
      rw [ho] at hl ⊢
      rw [rd_mid ahead (U n ++ behind) l 14 (by rw [hl]; simp)]
      have e := uR_at n (by omega) (by omega) (ahead ++ [14]) behind l (by rw [hl]; simp) ((ahead.length : Int) + 1) (by simp)
      simp [opR, e]
      omega
  · subst hk
    obtain ⟨h0, h1, h2, h3⟩ := may2 h
    have ho : opB 2 r n = [12] ++ U r ++ U n := by simp [opB]
    rw [ho] at hl ⊢
    rw [rd_mid ahead (U r ++ U n ++ behind) l 12 (by rw [hl]; simp)]
    have e := uR_at r (by omega) (by omega) (ahead ++ [12]) (U n ++ behind) l (by rw [hl]; simp) ((ahead.length : Int) + 1) (by simp)
    have e2 := uR_at n (by omega) (by omega) (ahead ++ [12] ++ U r) behind l (by rw [hl]; simp) ((ahead.length : Int) + 1 + (U r).length) (by simp; omega)
    simp [opR, e, e2]
    omega
  · obtain ⟨rfl, h0, h1⟩ := may4 hk h
    rcases hk with rfl | rfl | rfl | rfl
    · have ho : opB 4 r 0 = [13] ++ U r := by simp [opB]
      rw [ho] at hl ⊢
      rw [rd_mid ahead (U r ++ behind) l 13 (by rw [hl]; simp)]
      have e := uR_at r (by omega) (by omega) (ahead ++ [13]) behind l (by rw [hl]; simp) ((ahead.length : Int) + 1) (by simp)
      simp [opR, e]
      omega
    · have ho : opB 6 r 0 = [(192 + r) % 256] := by simp [opB]
      rw [ho] at hl ⊢
      rw [rd_mid ahead behind l ((192 + r) % 256) (by rw [hl]; simp)]
      unfold opR
      rw [if_neg (by omega), if_neg (by omega), if_pos (by omega), show (192 + r) % 256 - 192 = r from by omega]
      rfl
    · have ho : opB 7 r 0 = [7] ++ U r := by simp [opB]
      rw [ho] at hl ⊢
      rw [rd_mid ahead (U r ++ behind) l 7 (by rw [hl]; simp)]
      have e := uR_at r (by omega) (by omega) (ahead ++ [7]) behind l (by rw [hl]; simp) ((ahead.length : Int) + 1) (by simp)
      simp [opR, e]
      omega
    · have ho : opB 8 r 0 = [8] ++ U r := by simp [opB]
      rw [ho] at hl ⊢
      rw [rd_mid ahead (U r ++ behind) l 8 (by rw [hl]; simp)]
      have e := uR_at r (by omega) (by omega) (ahead ++ [8]) behind l (by rw [hl]; simp) ((ahead.length : Int) + 1) (by simp)
      simp [opR, e]
      omega
  · subst hk
    obtain ⟨m, rfl, h0, h1, h2, h3⟩ := may5 h
    have hd : -(8 * m / 8) = -m := by omega
    by_cases c : 8 * m ≤ 0
    · have ho : opB 5 r (8 * m) = [(128 + r) % 256] ++ U (-m) := by simp [opB, c, hd]
      rw [ho] at hl ⊢
      rw [rd_mid ahead (U (-m) ++ behind) l ((128 + r) % 256) (by rw [hl]; simp)]
      have e := uR_at (-m) (by omega) (by omega) (ahead ++ [(128 + r) % 256]) behind l (by rw [hl]; simp) ((ahead.length : Int) + 1) (by simp)
      unfold opR
      rw [if_neg (by omega), if_pos (by omega), e, Option.bind_some, if_pos (by constructor <;> (show _ ≤ _; simp only; omega))]
      simp
      omega
    · have ho : opB 5 r (8 * m) = [17] ++ U r ++ slebL (-m) := by simp [opB, c, hd]
      rw [ho] at hl ⊢
      rw [rd_mid ahead (U r ++ slebL (-m) ++ behind) l 17 (by rw [hl]; simp)]
      have e := uR_at r (by omega) (by omega) (ahead ++ [17]) (slebL (-m) ++ behind) l (by rw [hl]; simp) ((ahead.length : Int) + 1) (by simp)
      have e2 := sR_at (-m) (by omega) (by omega) (ahead ++ [17] ++ U r) behind l (by rw [hl]; simp) ((ahead.length : Int) + 1 + (U r).length) (by simp; omega)
      simp [opR, e, e2]
      omega
theorem U_range (a : Int) : ∀ b ∈ U a, 0 ≤ b ∧ b ≤ 255 := ulebL_range _
theorem opB_range {k r n : Int} (h : mayF k r n = true) : ∀ b ∈ opB k r n, 0 ≤ b ∧ b ≤ 255 := by
  intro b hb
  unfold opB at hb
  split at hb
  · unfold advB at hb
    repeat' split at hb
    all_goals simp at hb; omega
  repeat' split at hb
  all_goals simp only [List.mem_append, List.mem_singleton] at hb
  all_goals first
    | omega
    | (rcases hb with hb | hb
       · first | omega | (rcases hb with hb | hb
                          · omega
                          · exact U_range _ _ hb)
       · first | exact U_range _ _ hb | exact slebL_range _ _ rfl _ hb)
theorem opB_pos (k r n : Int) : 0 < (opB k r n).length := by
  unfold opB advB
  repeat' split
  all_goals simp
theorem out_grows (t : List (Int × Int × Int)) : ∀ acc B : List Int, outB t acc = (B, 0) → (∃ rest, B = acc ++ rest ∧ t.length ≤ rest.length) ∧ ((∀ b ∈ acc, 0 ≤ b ∧ b ≤ 255) → ∀ b ∈ B, 0 ≤ b ∧ b ≤ 255) ∧ B.length ≤ acc.length + 30 * t.length := by
  induction t with
  | nil =>
    intro acc B h
    obtain rfl := (Prod.mk.inj h).1
    exact ⟨⟨[], by simp, by simp⟩, fun h => h, by simp⟩
  | cons x t ih =>
    obtain ⟨k, r, n⟩ := x
    intro acc B h
    unfold outB at h
    by_cases c : mayF k r n = true
    · rw [if_pos c] at h
      obtain ⟨⟨rest, hr, hl⟩, h2, h3⟩ := ih _ _ h
      have h30 := opB_le c
      have hp := opB_pos k r n
      rw [List.length_append] at h3
      refine ⟨⟨opB k r n ++ rest, by rw [hr]; simp, by simp; omega⟩, fun h' => h2 (fun b hb => ?_), by simp; omega⟩
      rcases List.mem_append.1 hb with hb | hb
      · exact h' b hb
      · exact opB_range c b hb
    · rw [if_neg c] at h
      have := (Prod.mk.inj h).2
      omega
theorem readR_out (B : List Int) (hB : ∀ b ∈ B, 0 ≤ b ∧ b ≤ 255) (hBl : B.length ≤ 1000000) (t : List S40) : ∀ (ahead : List Int) (acc : List S40) (kk : Nat), outB (opl t) ahead = (B, 0) → acc.length + t.length ≤ 4000 → t.length < kk → readR B kk (ahead.length : Int) acc = some (acc ++ t) := by
  induction t with
  | nil =>
    intro ahead acc kk h hl hk
    obtain ⟨kk, rfl⟩ : ∃ m, kk = m + 1 := ⟨kk - 1, by omega⟩
    obtain rfl := (Prod.mk.inj h).1
    rw [readR, if_neg (by omega)]
    simp
  | cons x t ih =>
    intro ahead acc kk h hl hk
    obtain ⟨kk, rfl⟩ : ∃ m, kk = m + 1 := ⟨kk - 1, by omega⟩
    have h2 : (if mayF x.f0 x.f1 x.f2 = true then outB (opl t) (ahead ++ opB x.f0 x.f1 x.f2) else ([], 130)) = (B, 0) := h
    by_cases c : mayF x.f0 x.f1 x.f2 = true
    · rw [if_pos c] at h2
      obtain ⟨⟨rest, hr, -⟩, -, -⟩ := out_grows _ _ _ h2
      have hp := opB_pos x.f0 x.f1 x.f2
      have hlen : B.length = ahead.length + (opB x.f0 x.f1 x.f2).length + rest.length := by rw [hr]; simp; omega
      simp only [List.length_cons] at hl hk
      rw [readR, if_pos (by omega), if_pos (by omega), read_op c ahead rest B hr hB (by omega) (by omega), Option.bind_some]
      have e := ih (ahead ++ opB x.f0 x.f1 x.f2) (acc ++ [x]) kk h2 (by simp; omega) (by omega)
      rw [List.length_append] at e
      simp only
      rw [if_pos ⟨c, by omega⟩, show (⟨x.f0, x.f1, x.f2⟩ : S40) = x from rfl, show (ahead.length : Int) + ((opB x.f0 x.f1 x.f2).length : Int) = ((ahead.length + (opB x.f0 x.f1 x.f2).length : Nat) : Int) from by omega, e]
      simp
    · rw [if_neg c] at h2
      have := (Prod.mk.inj h2).2
      omega
theorem outB_or (t : List (Int × Int × Int)) : ∀ acc, (outB t acc).2 = 0 ∨ outB t acc = ([], 130) := by
  induction t with
  | nil => intro acc; exact .inl rfl
  | cons x t ih =>
    obtain ⟨k, r, n⟩ := x
    intro acc
    unfold outB
    split
    · exact ih _
    · exact .inr rfl
theorem CfaBack : Stmt.CfaBack := by
  intro l0 h0
  refine ⟨l0.length + 100, ?_⟩
  have e : gangwaylaw13_Ops.f (l0.length + 100) l0 = some (conv l0) := ops_l0 l0 (by omega) l0.length (l0.length + 100) 0 (by omega) (by omega) (by omega)
  have hc := conv_length l0
  unfold gangwaylaw13_CfaBack.f
  rw [e, Option.bind_some, write_f (conv l0) _ (by rw [conv_length]; omega), Option.bind_some]
  unfold gangwaylaw13_num.f gangwaylaw13_knows.f writeV
  rw [opl_length, hc, Option.bind_some]
  have hbad : ∀ v : List Int × Int, v.1 = [] → v.2 ≠ 0 → (if v.2 = 0 then (some true).bind fun t109 => gangwaylaw13_CfaBack.j0 (l0.length + 100) l0 v.1 (!t109) else gangwaylaw13_CfaBack.j0 (l0.length + 100) l0 v.1 true) = some true := by
    intro v hv1 hv2
    rw [if_neg hv2, hv1]
    show gangwaylaw13_CfaBack.j0 (l0.length + 99 + 1) l0 [] true = some true
    rw [gangwaylaw13_CfaBack.j0, if_pos rfl]
    rfl
  by_cases c1 : l0.length > 4000
  · rw [if_pos c1]
    exact hbad _ rfl (by decide)
  rw [if_neg c1]
  rcases outB_or (opl (conv l0)) [] with h | h
  · obtain ⟨⟨B, er⟩, hB⟩ : ∃ p, outB (opl (conv l0)) [] = p := ⟨_, rfl⟩
    rw [hB] at h
    have h' : er = 0 := h
    subst h'
    obtain ⟨⟨rest, hr, hl⟩, h2, h3⟩ := out_grows _ _ _ hB
    rw [opl_length, hc] at hl h3
    simp only [List.nil_append] at hr
    subst hr
    have h3' : B.length ≤ 30 * l0.length := by simpa using h3
    rw [hB, if_pos rfl, Option.bind_some]
    show gangwaylaw13_CfaBack.j0 (l0.length + 99 + 1) l0 B false = some true
    have hR : cfa_Read.f B = some (conv l0, 0) := by
      unfold cfa_Read.f readF
      rw [if_pos (by omega)]
      have := readR_out B (h2 (by simp)) (by omega) (conv l0) [] [] (B.length + 1) hB (by rw [hc]; simp; omega) (by rw [hc]; omega)
      simp only [List.length_nil, List.nil_append] at this
      rw [show ((0 : Nat) : Int) = 0 from rfl] at this
      rw [this]
      rfl
    rw [gangwaylaw13_CfaBack.j0, if_neg (by decide), hR, Option.bind_some]
    unfold gangwaylaw13_num.f
    rw [Option.bind_some, if_pos rfl, same_f l0 (by omega) _ (by omega)]
    rfl
  · rw [h]
    exact hbad _ rfl (by decide)
end Go.Proofs.Ytngddlihppomhaa.Pure
