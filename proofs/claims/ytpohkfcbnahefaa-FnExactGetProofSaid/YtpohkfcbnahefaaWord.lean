/- Eight bytes as a number: the reference's and the program's reading of a text are one, at every text. -/
import Derived.Test.YtpohkfcbnahefaaQx2
import Derived.Test.YtpohkfcbnahefaaQx3
namespace Go.Proofs.Ytpohkfcbnahefaa.Pure
open Go.RowKit Go.Proofs.Ytpohkfcbnahefaa.Q Go.Proofs.YtpohkfcbnahefaaW.PrintWords Go.Proofs.YtpohkfcbnahefaaW.PrintLast
set_option linter.unusedSimpArgs false

theorem wrap_u64 (n : Int) : IntKind.u64.wrap n = n % 18446744073709551616 := by simp [IntKind.wrap, IntKind.bits, IntKind.signed]
theorem wrap64_in {n : Int} (h0 : -9223372036854775808 ≤ n) (h : n < 9223372036854775808) : wrap64 n = n := by unfold wrap64; omega
theorem wraps_u64 (n : Int) (h₀ : 0 ≤ n) (h₁ : n < 2 ^ 64) : IntKind.u64.wrap n = n := by rw [wrap_u64]; omega

theorem bt_range (s : ByteArray) (i : Int) : 0 ≤ bt s i ∧ bt s i < 256 := by
  unfold bt; split
  · rename_i h
    have := UInt8.toNat_lt (s[i.toNat]'h)
    omega
  · omega

/-- the number of the bytes from i on, after x -/
def wordGo (s : ByteArray) : Nat → Int → Int → Int
  | 0, _, x => x
  | d + 1, i, x => wordGo s d (i + 1) ((x * 256 + bt s i) % 18446744073709551616)
def word (s : ByteArray) : Int := wordGo s s.size 0 0

theorem wordGo_range (s : ByteArray) : ∀ (d : Nat) (i x : Int), 0 ≤ x ∧ x < 18446744073709551616 → 0 ≤ wordGo s d i x ∧ wordGo s d i x < 18446744073709551616
  | 0, _, _, h => h
  | d + 1, i, x, _ => wordGo_range s d (i + 1) _ (by omega)
theorem word_range (s : ByteArray) : 0 ≤ word s ∧ word s < 18446744073709551616 := wordGo_range s _ _ _ (by omega)

theorem or_byte (x b : Int) (hb0 : 0 ≤ b) (hb : b < 256) :
    Go.bits .or .u64 (IntKind.u64.wrap (x * 256)) (IntKind.u64.wrap b) = (x * 256 + b) % 18446744073709551616 := by
  rw [wraps_u64 b hb0 (by omega), wrap_u64]
  rw [bits_join .u64 64 (by decide) wraps_u64 8 _ _ (by omega) (by omega) (by omega) hb0 (by omega) (by omega)]
  omega

theorem spec_word_go (s : ByteArray) (hs : s.size ≤ 140737488351232) : ∀ (d k : Nat) (i x : Int), 0 ≤ i → (s.size : Int) - i = d → d < k →
    spec_l2Word.l0 k s x i = some (wordGo s d i x)
  | 0, k, i, x, h0, hd, hk => by
    obtain ⟨k, rfl⟩ : ∃ m, k = m + 1 := ⟨k - 1, by omega⟩
    simp only [spec_l2Word.l0]; rw [if_neg (by omega)]; rfl
  | d + 1, k, i, x, h0, hd, hk => by
    obtain ⟨k, rfl⟩ : ∃ m, k = m + 1 := ⟨k - 1, by omega⟩
    have hb := bt_range s i
    simp only [spec_l2Word.l0]; rw [if_pos (by omega), if_pos h0, wrap64_in (by omega) (by omega)]
    have e : IntKind.u64.wrap (IntKind.u64.wrap (x * 256) + IntKind.u64.wrap (bt s i)) = (x * 256 + bt s i) % 18446744073709551616 := by
      simp only [wrap_u64]; omega
    rw [e, spec_word_go s hs d k (i + 1) _ (by omega) (by omega) (by omega)]; rfl

theorem spec_word (s : ByteArray) (hs : s.size ≤ 140737488351232) {k : Nat} (hk : s.size < k) : spec_l2Word.f k s = some (word s) :=
  spec_word_go s hs s.size k 0 0 (by omega) (by omega) hk

theorem impl_word_go (s : ByteArray) (hs : s.size ≤ 140737488351232) : ∀ (d k : Nat) (i x : Int), 0 ≤ i → (s.size : Int) - i = d → d < k →
    impl_wordOf.l0 k s x (s.size : Int) i = some (wordGo s d i x)
  | 0, k, i, x, h0, hd, hk => by
    obtain ⟨k, rfl⟩ : ∃ m, k = m + 1 := ⟨k - 1, by omega⟩
    simp only [impl_wordOf.l0]; rw [if_neg (by omega)]; rfl
  | d + 1, k, i, x, h0, hd, hk => by
    obtain ⟨k, rfl⟩ : ∃ m, k = m + 1 := ⟨k - 1, by omega⟩
    have hb := bt_range s i
    simp only [impl_wordOf.l0]; rw [if_pos (by omega), if_pos h0, if_pos (by omega), wrap64_in (by omega) (by omega), or_byte _ _ hb.1 hb.2]
    rw [impl_word_go s hs d k (i + 1) _ (by omega) (by omega) (by omega)]; rfl

theorem impl_word (s : ByteArray) (hs : s.size ≤ 140737488351232) {k : Nat} (hk : s.size < k) : impl_wordOf.f k s = some (word s) :=
  impl_word_go s hs s.size k 0 0 (by omega) (by omega) hk

end Go.Proofs.Ytpohkfcbnahefaa.Pure
