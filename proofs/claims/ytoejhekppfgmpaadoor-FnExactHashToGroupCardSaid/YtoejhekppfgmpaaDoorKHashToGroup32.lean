/- What the proof of FnExactHashToGroup leans on, part 32: cut out of the texts of this claim's making by a program (wip/tools/pack.py). -/
import Derived.Test.YtoejhekppfgmpaaDoorKHashToGroup23
import Derived.Test.YtoejhekppfgmpaaDoorKHashToGroup24
import Derived.Test.YtoejhekppfgmpaaDoorKHashToGroup31
section
namespace Go.Proofs.YtoejhekppfgmpaaDoor.Hf
open Go Go.RowKit Go.Proofs.YtoejhekppfgmpaaDoorW.PrintWords Go.Proofs.YtoejhekppfgmpaaDoorW.PrintLast Go.Proofs.YtoejhekppfgmpaaDoorW.PrintMore Go.Proofs.YtoejhekppfgmpaaDoor.Kp Go.Proofs.YtoejhekppfgmpaaDoor.Hp Go.Proofs.YtoejhekppfgmpaaDoor.R1 Go.Proofs.YtoejhekppfgmpaaDoor.KE2 Go.Proofs.YtoejhekppfgmpaaDoor.B Go.Proofs.YtoejhekppfgmpaaDoor.C Go.Proofs.YtoejhekppfgmpaaDoor.E
set_option linter.unusedVariables false
set_option linter.unusedSimpArgs false
def rdm (m : Int) (a : ByteArray) : Int := if m = 0 ∨ 65535 < a.size then 0 else red a m 0 a.size 0
/-- the first j elements -/
def hl (m : Int) (s : ByteArray) : Nat → List Int
  | 0 => []
  | j + 1 => hl m s j ++ [rdm m (s.extract (24 * j) (24 * (j + 1)))]
theorem hl_len (m : Int) (s : ByteArray) : ∀ j, (hl m s j).length = j
  | 0 => rfl
  | j + 1 => by rw [hl, List.length_append, hl_len m s j]; rfl
theorem spec_go {m : Int} (h0 : 0 ≤ m) (hm : m < 18446744073709551616) (s : ByteArray) (c : Nat) (hc : c ≤ 340) (hs : s.size = 24 * c) : ∀ (d j k : Nat), j + d = c → 700000 + d < k →
    spec_HashToField.l0 k m c (hl m s j) s true j = some (hl m s c, true)
  | 0, j, k, hj, hk => by
    obtain ⟨k, rfl⟩ : ∃ i, k = i + 1 := ⟨k - 1, by omega⟩
    rw [spec_HashToField.l0, if_neg (by omega), show j = c by omega]
  | d + 1, j, k, hj, hk => by
    obtain ⟨k, rfl⟩ : ∃ i, k = i + 1 := ⟨k - 1, by omega⟩
    have e1 : wrap64 (24 * (j : Int)) = ((24 * j : Nat) : Int) := by rw [w64 (by omega) (by omega)]; omega
    have e2 : wrap64 (((24 * j : Nat) : Int) + 24) = ((24 * (j + 1) : Nat) : Int) := by rw [w64 (by omega) (by omega)]; omega
    rw [spec_HashToField.l0, if_pos (by omega), if_pos rfl, e1, e2, if_pos (by omega), if_pos (by omega), if_pos (by omega), Int.toNat_natCast, Int.toNat_natCast, spec_reduce _ m h0 hm (by omega), Option.bind_some, if_pos (by rw [hl_len]; omega), w64 (by omega) (by omega)]
    have ih := spec_go h0 hm s c hc hs d (j + 1) k (by omega) (by omega)
    rw [show ((j + 1 : Nat) : Int) = (j : Int) + 1 by omega] at ih
    exact ih
theorem toList_nil (s : ByteArray) : s.toList = [] ↔ s.size = 0 := by
  rw [ByteArray.toList_eq]
  constructor
  · intro h
    have := congrArg List.length h
    simpa using this
  · intro h
    exact List.eq_nil_of_length_eq_zero (by rw [← Lib.size_eq]; exact h)
theorem impl_go {m : Int} (h0 : 0 ≤ m) (hm : m < 18446744073709551616) (s : ByteArray) (c : Nat) (hc : c ≤ 340) (hs : s.size = 24 * c) : ∀ (d j k : Nat), j + d = c → 700000 + d < k →
    impl_HashToField.l0 k m (s.extract (24 * j) s.size) (hl m s j) = some (hl m s c, true)
  | 0, j, k, hj, hk => by
    obtain ⟨k, rfl⟩ : ∃ i, k = i + 1 := ⟨k - 1, by omega⟩
    rw [impl_HashToField.l0, if_pos ((toList_nil _).2 (by rw [ByteArray.size_extract]; omega)), show j = c by omega]
  | d + 1, j, k, hj, hk => by
    obtain ⟨k, rfl⟩ : ∃ i, k = i + 1 := ⟨k - 1, by omega⟩
    have hz : (s.extract (24 * j) s.size).size = s.size - 24 * j := by rw [ByteArray.size_extract]; omega
    have e1 : (s.extract (24 * j) s.size).extract 0 24 = s.extract (24 * j) (24 * (j + 1)) := by
      rw [ByteArray.extract_extract]; congr 1; omega
    have e2 : (s.extract (24 * j) s.size).extract 24 (s.extract (24 * j) s.size).size = s.extract (24 * (j + 1)) s.size := by
      rw [ByteArray.extract_extract, hz]; congr 1; omega
    rw [impl_HashToField.l0, if_neg (fun h => by have := (toList_nil _).1 h; omega), if_pos (by omega), if_pos (by omega), e1, e2, impl_reduce _ m h0 hm (by omega), Option.bind_some, if_pos (by rw [hl_len]; omega)]
    exact impl_go h0 hm s c hc hs d (j + 1) k (by omega) (by omega)
theorem em1_size (a b : ByteArray) (n : Nat) : (em1 a b n).size = n := by
  show (List.toArray _).size = n
  rw [List.size_toArray, List.length_take, K9.oM_len]; omega
/-- the elements -/
def htf (a b : ByteArray) (m c : Int) : List Int × Bool :=
  if c < 1 ∨ 340 < c ∨ m = 0 then ([], false) else if b.size < 1 ∨ 255 < b.size ∨ 65535 < a.size then ([], false) else (hl m (em1 a b (24 * c.toNat)) c.toNat, true)
theorem spec_htf (a b : ByteArray) (m c : Int) (h0 : 0 ≤ m) (hm : m < 18446744073709551616) {k : Nat} (hk : 701000 ≤ k) : spec_HashToField.f k a b m c = some (htf a b m c) := by
  obtain ⟨k, rfl⟩ : ∃ i, k = i + 1 := ⟨k - 1, by omega⟩
  unfold spec_HashToField.f htf
  rw [Option.bind_some]
  by_cases c1 : c < 1
  · rw [if_pos c1, if_pos (.inl c1), spec_HashToField.j0, if_pos rfl]
  by_cases c2 : 340 < c
  · rw [if_neg c1, if_pos (by omega), if_pos (.inr (.inl c2)), spec_HashToField.j0, if_pos rfl]
  by_cases c3 : m = 0
  · rw [if_neg c1, if_neg (by omega), if_pos (.inr (.inr c3)), spec_HashToField.j0, if_pos (by simp [c3])]
  rw [if_neg c1, if_neg (by omega), if_neg (by omega), spec_HashToField.j0, if_neg (by simp [c3]), w64 (by omega) (by omega), em_spec a b _ k (by omega)]
  obtain ⟨n, rfl⟩ := Int.eq_ofNat_of_zero_le (a := c) (by omega)
  unfold impl_ExpandMessage.f
  by_cases c4 : b.size < 1 ∨ 255 < b.size ∨ 65535 < a.size
  · rw [if_pos (by omega), if_pos c4, Option.bind_some]
    obtain ⟨k, rfl⟩ : ∃ i, k = i + 1 := ⟨k - 1, by omega⟩
    rw [spec_HashToField.l0, if_pos (by omega), if_neg (by decide)]
  · rw [if_neg (by omega), if_neg c4, Option.bind_some, Int.toNat_natCast, show (24 * (n : Int)).toNat = 24 * n by omega]
    exact spec_go h0 hm _ n (by omega) (em1_size _ _ _) n 0 k (by omega) (by omega)
theorem impl_htf (a b : ByteArray) (m c : Int) (h0 : 0 ≤ m) (hm : m < 18446744073709551616) {k : Nat} (hk : 701000 ≤ k) : impl_HashToField.f k a b m c = some (htf a b m c) := by
  obtain ⟨k, rfl⟩ : ∃ i, k = i + 1 := ⟨k - 1, by omega⟩
  unfold impl_HashToField.f htf
  by_cases c1 : c < 1
  · rw [if_pos c1, if_pos (.inl c1), impl_HashToField.j0, if_pos rfl]
  by_cases c2 : 340 < c
  · rw [if_neg c1, if_pos (by omega), if_pos (.inr (.inl c2)), impl_HashToField.j0, if_pos rfl]
  by_cases c3 : m = 0
  · rw [if_neg c1, if_neg (by omega), if_pos (.inr (.inr c3)), impl_HashToField.j0, if_pos (by simp [c3])]
  rw [if_neg c1, if_neg (by omega), if_neg (by omega), impl_HashToField.j0, if_neg (by simp [c3]), w64 (by omega) (by omega)]
  obtain ⟨n, rfl⟩ := Int.eq_ofNat_of_zero_le (a := c) (by omega)
  unfold impl_ExpandMessage.f
  by_cases c4 : b.size < 1 ∨ 255 < b.size ∨ 65535 < a.size
  · rw [if_pos (by omega), if_pos c4, Option.bind_some, if_neg (by decide)]
  · rw [if_neg (by omega), if_neg c4, Option.bind_some, if_pos rfl, Int.toNat_natCast, show (24 * (n : Int)).toNat = 24 * n by omega]
    have := impl_go h0 hm (em1 a b (24 * n)) n (by omega) (em1_size _ _ _) n 0 k (by omega) (by omega)
    rw [show (em1 a b (24 * n)).extract (24 * 0) (em1 a b (24 * n)).size = em1 a b (24 * n) from ByteArray.extract_zero_size] at this
    exact this
end Go.Proofs.YtoejhekppfgmpaaDoor.Hf
end
