/- Words are written in eight bytes, the highest first, by both. -/
import Derived.Test.YtpohkfcbnahefaaQx1
namespace Go.Proofs.Ytpohkfcbnahefaa.Pure
open Go.RowKit Go.Proofs.Ytpohkfcbnahefaa.Q Go.Proofs.YtpohkfcbnahefaaW.PrintWords Go.Proofs.YtpohkfcbnahefaaW.PrintLast
set_option linter.unusedSimpArgs false

theorem spec_putWord (a : Int) : spec_PutWord.f 20 a = some (strOfNums [shr .u64 a 56 % 256, shr .u64 a 48 % 256, shr .u64 a 40 % 256, shr .u64 a 32 % 256, shr .u64 a 24 % 256, shr .u64 a 16 % 256, shr .u64 a 8 % 256, shr .u64 a 0 % 256]) := by
  simp [spec_PutWord.f, spec_PutWord.l0, wrap64, IntKind.wrap, IntKind.bits, IntKind.signed]

theorem impl_putWord (a : Int) : impl_PutWord.f 20 a = some (strOfNums [shr .u64 a 56 % 256, shr .u64 a 48 % 256, shr .u64 a 40 % 256, shr .u64 a 32 % 256, shr .u64 a 24 % 256, shr .u64 a 16 % 256, shr .u64 a 8 % 256, shr .u64 a 0 % 256]) := by
  simp [impl_PutWord.f, impl_bigEndian.f, impl_bigEndian.l0, wrap64, List.replicate_succ]

theorem FnExactPutWord : laws_FnExactPutWord.Pure := by
  intro a _
  refine ⟨20, ?_⟩
  unfold laws_FnExactPutWord.f
  rw [spec_putWord, impl_putWord]
  simp

end Go.Proofs.Ytpohkfcbnahefaa.Pure
