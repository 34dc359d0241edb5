/- PutProof: two words, one after the other, by both. -/
import Derived.Test.YtpohkfcbnahefaaQx2
import Derived.Test.YtpohkfcbnahefaaQx1
namespace Go.Proofs.Ytpohkfcbnahefaa.Pure
open Go.RowKit Go.Proofs.Ytpohkfcbnahefaa.Q Go.Proofs.YtpohkfcbnahefaaW.PrintWords Go.Proofs.YtpohkfcbnahefaaW.PrintLast
set_option linter.unusedSimpArgs false

/-- a word's eight bytes -/
def putWord (a : Int) : ByteArray := strOfNums [shr .u64 a 56 % 256, shr .u64 a 48 % 256, shr .u64 a 40 % 256, shr .u64 a 32 % 256, shr .u64 a 24 % 256, shr .u64 a 16 % 256, shr .u64 a 8 % 256, shr .u64 a 0 % 256]

theorem spec_putWord (a : Int) : spec_PutWord.f 20 a = some (putWord a) := by
  simp [spec_PutWord.f, spec_PutWord.l0, wrap64, IntKind.wrap, IntKind.bits, IntKind.signed, putWord]

theorem impl_putWord (a : Int) : impl_PutWord.f 20 a = some (putWord a) := by
  simp [impl_PutWord.f, impl_bigEndian.f, impl_bigEndian.l0, wrap64, List.replicate_succ, putWord]

theorem putWord_size (a : Int) : (putWord a).size = 8 := by simp [putWord, strOfNums_size]

theorem FnExactPutProof (a b : Int) (_ : (Lit.int .u64 a).wf = true) (_ : (Lit.int .u64 b).wf = true) : ∃ k, laws_FnExactPutProof.f k a b = some true := by
  refine ⟨20, ?_⟩
  unfold laws_FnExactPutProof.f laws_toProof.f spec_PutProof.f impl_PutProof.f
  simp only [Option.bind_some]
  rw [spec_putWord, impl_putWord, spec_putWord, impl_putWord]
  simp only [Option.bind_some]
  simp [putWord_size]

end Go.Proofs.Ytpohkfcbnahefaa.Pure
