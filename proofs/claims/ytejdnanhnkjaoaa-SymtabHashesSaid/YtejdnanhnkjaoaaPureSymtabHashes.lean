/- The plain law of SymtabHashes: a hash has 28 bits; the other one goes on from the name without its last byte. -/
import Derived.Test.YtejdnanhnkjaoaaStmtSymtabHashes
import Derived.Test.YtejdnanhnkjaoaaHash
import Derived.Test.YtejdnanhnkjaoaaLive
namespace Go.Proofs.Ytejdnanhnkjaoaa.Pure
set_option linter.unusedVariables false
set_option linter.unusedSimpArgs false
open Go.RowKit Go.Proofs.Ytejdnanhnkjaoaa.G Go.Proofs.Ytejdnanhnkjaoaa.Stmt Go.Proofs.YtejdnanhnkjaoaaW.PrintWords Go.Proofs.YtejdnanhnkjaoaaW.PrintLast Go.Proofs.YtejdnanhnkjaoaaW.PrintMore Go.Proofs.Ytejdnanhnkjaoaa.Bit Go.Proofs.Ytejdnanhnkjaoaa.Sym

theorem SymtabHashes : Stmt.SymtabHashes := by
  intro a0 a1 h0 h1
  have hb := wf_u8 h1
  unfold gangwaylaw08_SymtabHashes.f symtab_Hash.f symtab_Gnu.f
  have hs : (strOfNums [a1]).size = 1 := by rfl
  have hH := symHash_lt a0.data.toList 0 (by decide) (by decide)
  rw [if_pos (show a0.size ≤ 4611686018427387904 by omega), Option.bind_some, if_pos hH.2]
  simp only [Option.bind_some]
  rw [hs, if_pos (by omega), if_pos (by rw [ByteArray.size_append, hs]; omega), if_pos (show a0.size ≤ 4611686018427387904 by omega)]
  simp only [Option.bind_some]
  have hd : (a0 ++ strOfNums [a1]).data.toList = a0.data.toList ++ [a1.toNat.toUInt8] := by
    rw [ByteArray.data_append]
    simp [strOfNums]
  rw [hd, symGnu_append]
  have h2 : (a1.toNat.toUInt8.toNat : Int) = a1 := by
    have : a1.toNat.toUInt8.toNat = a1.toNat % 256 := rfl
    omega
  rw [show symGnu [a1.toNat.toUInt8] (symGnu a0.data.toList 5381) = (33 * symGnu a0.data.toList 5381 + (a1.toNat.toUInt8.toNat : Int)) % 4294967296 from rfl, h2, if_pos rfl]
  rw [show symGnu (⟨#[]⟩ : ByteArray).data.toList 5381 = 5381 from rfl, if_pos (show (⟨#[]⟩ : ByteArray).size ≤ 4611686018427387904 by decide)]
  simp only [Option.bind_some, if_true]
  rw [live_true]
  rfl
end Go.Proofs.Ytejdnanhnkjaoaa.Pure
