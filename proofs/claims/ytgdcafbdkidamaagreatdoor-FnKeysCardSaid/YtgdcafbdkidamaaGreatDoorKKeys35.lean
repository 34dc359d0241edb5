/- What the proof of FnKeys leans on, part 35: cut out of the texts of this claim's making by a program (wip/tools/pack.py). -/
import Derived.Test.YtgdcafbdkidamaaGreatDoorKKeys5
import Derived.Test.YtgdcafbdkidamaaGreatDoorKKeys8
import Derived.Test.YtgdcafbdkidamaaGreatDoorKKeys11
import Derived.Test.YtgdcafbdkidamaaGreatDoorKKeys12
import Derived.Test.YtgdcafbdkidamaaGreatDoorKKeys13
import Derived.Test.YtgdcafbdkidamaaGreatDoorKKeys19
import Derived.Test.YtgdcafbdkidamaaGreatDoorKKeys20
import Derived.Test.YtgdcafbdkidamaaGreatDoorKKeys23
import Derived.Test.YtgdcafbdkidamaaGreatDoorKKeys29
import Derived.Test.YtgdcafbdkidamaaGreatDoorKKeys31
import Derived.Test.YtgdcafbdkidamaaGreatDoorKKeys32
import Derived.Test.YtgdcafbdkidamaaGreatDoorKKeys33
import Derived.Test.YtgdcafbdkidamaaGreatDoorKKeys34
import Derived.KernelRfl
import Derived.Lib.Hide
import Derived.LoopTactic
import Derived.WalkSpells
section
namespace Go.Proofs.YtgdcafbdkidamaaGreatDoor.Hf
open Go Go.RowKit Go.Proofs.YtgdcafbdkidamaaGreatDoorW.PrintWords Go.Proofs.YtgdcafbdkidamaaGreatDoorW.PrintLast Go.Proofs.YtgdcafbdkidamaaGreatDoorW.PrintMore Go.Proofs.YtgdcafbdkidamaaGreatDoor.Kp Go.Proofs.YtgdcafbdkidamaaGreatDoor.Hp Go.Proofs.YtgdcafbdkidamaaGreatDoor.Pure Go.Proofs.YtgdcafbdkidamaaGreatDoor.KE2 Go.Proofs.YtgdcafbdkidamaaGreatDoor.B Go.Proofs.YtgdcafbdkidamaaGreatDoor.C Go.Proofs.YtgdcafbdkidamaaGreatDoor.E
set_option linter.unusedVariables false
set_option linter.unusedSimpArgs false
def rdm (m : Int) (a : ByteArray) : Int := if m = 0 ∨ 65535 < a.size then 0 else red a m 0 a.size 0
/-- the first j elements -/
def hl (m : Int) (s : ByteArray) : Nat → List Int
  | 0 => []
  | j + 1 => hl m s j ++ [rdm m (s.extract (24 * j) (24 * (j + 1)))]
theorem hl_len (m : Int) (s : ByteArray) : ∀ j, (hl m s j).length = j
  | 0 => rfl
  | j + 1 => by rw [hl, List.length_append, hl_len m s j]; rfl
theorem spec_go {m : Int} (h0 : 0 ≤ m) (hm : m < 18446744073709551616) (s : ByteArray) (c : Nat) (hc : c ≤ 340) (hs : s.size = 24 * c) : ∀ (d j k : Nat), j + d = c → 700000 + d < k →
    spec_HashToField.l0 k m c (hl m s j) s true j = some (hl m s c, true)
  | 0, j, k, hj, hk => by
    obtain ⟨k, rfl⟩ : ∃ i, k = i + 1 := ⟨k - 1, by omega⟩
    rw [spec_HashToField.l0, if_neg (by omega), show j = c by omega]
  | d + 1, j, k, hj, hk => by
    obtain ⟨k, rfl⟩ : ∃ i, k = i + 1 := ⟨k - 1, by omega⟩
    have e1 : wrap64 (24 * (j : Int)) = ((24 * j : Nat) : Int) := by rw [w64 (by omega) (by omega)]; omega
    have e2 : wrap64 (((24 * j : Nat) : Int) + 24) = ((24 * (j + 1) : Nat) : Int) := by rw [w64 (by omega) (by omega)]; omega
    rw [spec_HashToField.l0, if_pos (by omega), if_pos rfl, e1, e2, if_pos (by omega), if_pos (by omega), if_pos (by omega), Int.toNat_natCast, Int.toNat_natCast, spec_reduce _ m h0 hm (by omega), Option.bind_some, if_pos (by rw [hl_len]; omega), w64 (by omega) (by omega)]
    have ih := spec_go h0 hm s c hc hs d (j + 1) k (by omega) (by omega)
    rw [show ((j + 1 : Nat) : Int) = (j : Int) + 1 by omega] at ih
    exact ih
theorem toList_nil (s : ByteArray) : s.toList = [] ↔ s.size = 0 := by
  rw [ByteArray.toList_eq]
  constructor
  · intro h
    have := congrArg List.length h
    simpa using this
  · intro h
    exact List.eq_nil_of_length_eq_zero (by rw [← Lib.size_eq]; exact h)
theorem impl_go {m : Int} (h0 : 0 ≤ m) (hm : m < 18446744073709551616) (s : ByteArray) (c : Nat) (hc : c ≤ 340) (hs : s.size = 24 * c) : ∀ (d j k : Nat), j + d = c → 700000 + d < k →
    impl_HashToField.l0 k m (s.extract (24 * j) s.size) (hl m s j) = some (hl m s c, true)
  | 0, j, k, hj, hk => by
    obtain ⟨k, rfl⟩ : ∃ i, k = i + 1 := ⟨k - 1, by omega⟩
    rw [impl_HashToField.l0, if_pos ((toList_nil _).2 (by rw [ByteArray.size_extract]; omega)), show j = c by omega]
  | d + 1, j, k, hj, hk => by
    obtain ⟨k, rfl⟩ : ∃ i, k = i + 1 := ⟨k - 1, by omega⟩
    have hz : (s.extract (24 * j) s.size).size = s.size - 24 * j := by rw [ByteArray.size_extract]; omega
    have e1 : (s.extract (24 * j) s.size).extract 0 24 = s.extract (24 * j) (24 * (j + 1)) := by
      rw [ByteArray.extract_extract]; congr 1; omega
    have e2 : (s.extract (24 * j) s.size).extract 24 (s.extract (24 * j) s.size).size = s.extract (24 * (j + 1)) s.size := by
      rw [ByteArray.extract_extract, hz]; congr 1; omega
    rw [impl_HashToField.l0, if_neg (fun h => by have := (toList_nil _).1 h; omega), if_pos (by omega), if_pos (by omega), e1, e2, impl_reduce _ m h0 hm (by omega), Option.bind_some, if_pos (by rw [hl_len]; omega)]
    exact impl_go h0 hm s c hc hs d (j + 1) k (by omega) (by omega)
theorem em1_size (a b : ByteArray) (n : Nat) : (em1 a b n).size = n := by
  show (List.toArray _).size = n
  rw [List.size_toArray, List.length_take, K9.oM_len]; omega
/-- the elements -/
def htf (a b : ByteArray) (m c : Int) : List Int × Bool :=
  if c < 1 ∨ 340 < c ∨ m = 0 then ([], false) else if b.size < 1 ∨ 255 < b.size ∨ 65535 < a.size then ([], false) else (hl m (em1 a b (24 * c.toNat)) c.toNat, true)
theorem spec_htf (a b : ByteArray) (m c : Int) (h0 : 0 ≤ m) (hm : m < 18446744073709551616) {k : Nat} (hk : 701000 ≤ k) : spec_HashToField.f k a b m c = some (htf a b m c) := by
  obtain ⟨k, rfl⟩ : ∃ i, k = i + 1 := ⟨k - 1, by omega⟩
  unfold spec_HashToField.f htf
  rw [Option.bind_some]
  by_cases c1 : c < 1
  · rw [if_pos c1, if_pos (.inl c1), spec_HashToField.j0, if_pos rfl]
  by_cases c2 : 340 < c
  · rw [if_neg c1, if_pos (by omega), if_pos (.inr (.inl c2)), spec_HashToField.j0, if_pos rfl]
  by_cases c3 : m = 0
  · rw [if_neg c1, if_neg (by omega), if_pos (.inr (.inr c3)), spec_HashToField.j0, if_pos (by simp [c3])]
  rw [if_neg c1, if_neg (by omega), if_neg (by omega), spec_HashToField.j0, if_neg (by simp [c3]), w64 (by omega) (by omega), em_spec a b _ k (by omega)]
  obtain ⟨n, rfl⟩ := Int.eq_ofNat_of_zero_le (a := c) (by omega)
  unfold impl_ExpandMessage.f
  by_cases c4 : b.size < 1 ∨ 255 < b.size ∨ 65535 < a.size
  · rw [if_pos (by omega), if_pos c4, Option.bind_some]
    obtain ⟨k, rfl⟩ : ∃ i, k = i + 1 := ⟨k - 1, by omega⟩
    rw [spec_HashToField.l0, if_pos (by omega), if_neg (by decide)]
  · rw [if_neg (by omega), if_neg c4, Option.bind_some, Int.toNat_natCast, show (24 * (n : Int)).toNat = 24 * n by omega]
    exact spec_go h0 hm _ n (by omega) (em1_size _ _ _) n 0 k (by omega) (by omega)
theorem impl_htf (a b : ByteArray) (m c : Int) (h0 : 0 ≤ m) (hm : m < 18446744073709551616) {k : Nat} (hk : 701000 ≤ k) : impl_HashToField.f k a b m c = some (htf a b m c) := by
  obtain ⟨k, rfl⟩ : ∃ i, k = i + 1 := ⟨k - 1, by omega⟩
  unfold impl_HashToField.f htf
  by_cases c1 : c < 1
  · rw [if_pos c1, if_pos (.inl c1), impl_HashToField.j0, if_pos rfl]
  by_cases c2 : 340 < c
  · rw [if_neg c1, if_pos (by omega), if_pos (.inr (.inl c2)), impl_HashToField.j0, if_pos rfl]
  by_cases c3 : m = 0
  · rw [if_neg c1, if_neg (by omega), if_pos (.inr (.inr c3)), impl_HashToField.j0, if_pos (by simp [c3])]
  rw [if_neg c1, if_neg (by omega), if_neg (by omega), impl_HashToField.j0, if_neg (by simp [c3]), w64 (by omega) (by omega)]
  obtain ⟨n, rfl⟩ := Int.eq_ofNat_of_zero_le (a := c) (by omega)
  unfold impl_ExpandMessage.f
  by_cases c4 : b.size < 1 ∨ 255 < b.size ∨ 65535 < a.size
  · rw [if_pos (by omega), if_pos c4, Option.bind_some, if_neg (by decide)]
  · rw [if_neg (by omega), if_neg c4, Option.bind_some, if_pos rfl, Int.toNat_natCast, show (24 * (n : Int)).toNat = 24 * n by omega]
    have := impl_go h0 hm (em1 a b (24 * n)) n (by omega) (em1_size _ _ _) n 0 k (by omega) (by omega)
    rw [show (em1 a b (24 * n)).extract (24 * 0) (em1 a b (24 * n)).size = em1 a b (24 * n) from ByteArray.extract_zero_size] at this
    exact this
end Go.Proofs.YtgdcafbdkidamaaGreatDoor.Hf
end
section
namespace Go.Proofs.YtgdcafbdkidamaaGreatDoor.T7
open Go Go.RowKit Go.Shelf Go.Proofs.YtgdcafbdkidamaaGreatDoorW.PrintWords Go.Proofs.YtgdcafbdkidamaaGreatDoorW.PrintLast Go.Proofs.YtgdcafbdkidamaaGreatDoorW.PrintMore Go.Proofs.YtgdcafbdkidamaaGreatDoor.K0 Go.Proofs.YtgdcafbdkidamaaGreatDoor.K2 Go.Proofs.YtgdcafbdkidamaaGreatDoor.K3 Go.Proofs.YtgdcafbdkidamaaGreatDoor.K4 Go.Proofs.YtgdcafbdkidamaaGreatDoor.K5 Go.Proofs.YtgdcafbdkidamaaGreatDoor.K9 Go.Proofs.YtgdcafbdkidamaaGreatDoor.S5 Go.Proofs.YtgdcafbdkidamaaGreatDoor.T5 Go.Proofs.YtgdcafbdkidamaaGreatDoor.G2 Go.Proofs.YtgdcafbdkidamaaGreatDoor.T6 Go.Proofs.YtgdcafbdkidamaaGreatDoor.Hf Go.Proofs.YtgdcafbdkidamaaGreatDoor.Hp Go.Proofs.YtgdcafbdkidamaaGreatDoor.C Go.Proofs.YtgdcafbdkidamaaGreatDoor.E
set_option linter.unusedVariables false
set_option linter.unusedSimpArgs false
/-- the number that a text hashes to under a tag -/
def htsV (t tag : ByteArray) : Int × Bool := if (htf t tag 2305843010818082053 1).2 = true then (rd (htf t tag 2305843010818082053 1).1 0, true) else (0, false)
theorem htf_one (a b : ByteArray) (m : Int) (h : (htf a b m 1).2 = true) : (htf a b m 1).1.length = 1 := by
  unfold htf at h ⊢
  split
  · rename_i g; rw [if_pos g] at h; cases h
  · rename_i g
    rw [if_neg g] at h
    split
    · rename_i g2; rw [if_pos g2] at h; cases h
    · exact hl_len _ _ _
theorem hts_impl (a b : ByteArray) {k : Nat} (hk : 701000 ≤ k) : E.impl_HashToScalar.f k a b = some (htsV a b) := by
  unfold E.impl_HashToScalar.f htsV
  rw [impl_htf a b _ 1 (by omega) (by omega) (by omega), Option.bind_some]
  by_cases g : (htf a b 2305843010818082053 1).2 = true
  · have h1 := htf_one a b _ g
    rw [if_pos g, if_pos (by omega), if_pos g]
  · rw [if_neg g, if_neg g]
theorem hts_spec (a b : ByteArray) {k : Nat} (hk : 701000 ≤ k) : C.spec_HashToScalar.f k a b = some (htsV a b) := by
  unfold C.spec_HashToScalar.f htsV
  rw [spec_htf a b _ 1 (by omega) (by omega) (by omega), Option.bind_some]
  by_cases g : (htf a b 2305843010818082053 1).2 = true
  · have h1 := htf_one a b _ g
    rw [if_pos g, if_pos (by omega), if_pos g]
  · rw [if_neg g, if_neg g]
theorem tag_f (m : Int) (word : ByteArray) (h0 : 0 ≤ m) (h2 : m ≤ 2) (hw : word.size < 274877906944) : impl_context_tag.f m word = some (tagV word m) := by
  unfold impl_context_tag.f
  rw [if_pos h0, if_pos h2, if_pos hw]
set_option maxRecDepth 100000 in
set_option maxHeartbeats 8000000 in
theorem scalar_c (m : Int) (word : ByteArray) (b : Nat) (xs : List Part) (cap : Nat) (w : World) (h0 : 0 ≤ m) (h2 : m ≤ 2) (hw : word.size < 274877906944) (hn : ttot xs < 70368744177664) (hl : xs.length < 1000) (hok : ∀ p ∈ xs, p.ok) (hG : G w) (hP : Pp w b xs) :
    Calls Tryz.prog 90 #[.int .i64 m, .string word, .slice (some ⟨b, 0, none⟩) xs.length cap] w fun e w' => e = .returned (.int .u64 (htsV (ttx xs) (tagV word m)).1) ∧ Below w.heap.size w w' := by
  have ht := Lib.hid (transcript_c b xs cap w hn hl hok hP)
  have hG' := Lib.hid hG
  have htag := Lib.hid (tag_f m word h0 h2 hw)
  clear hn hl hok hP hG h0 h2 hw
  go_enter Tryz.func90, Tryz.ntmps90
  go_wp2_with (first
    | (go_at_call 82; (with_reducible refine ht.out.mono ?_); rintro e w1 ⟨rfl, hb1⟩; have hb1' := Lib.hid hb1; clear hb1)
    | (go_at_call 104; (with_reducible refine (impl_context_tag.calls m word _ _ htag.out).mono ?_); rintro e w2 ⟨rfl, hb2⟩; have hb2' := Lib.hid hb2; clear hb2)
    | (go_at_call 129; (with_reducible refine (E.impl_HashToScalar.calls 701000 (ttx xs) (tagV word m) _ _ _ (G_below hb2'.out (G_below hb1'.out hG'.out)) (hts_impl _ _ (Nat.le_refl _))).mono ?_); rintro e w3 ⟨rfl, hb3⟩; have hb3' := Lib.hid hb3; clear hb3))
  go_ret
  exact ⟨rfl, (hb1'.out.trans (hb2'.out.mono hb1'.out.size)).trans (hb3'.out.mono (Nat.le_trans hb1'.out.size hb2'.out.size))⟩
end Go.Proofs.YtgdcafbdkidamaaGreatDoor.T7
end
section
namespace Go.Proofs.YtgdcafbdkidamaaGreatDoor.DK
open Go Go.RowKit Go.Shelf Go.Proofs.YtgdcafbdkidamaaGreatDoorW.PrintWords Go.Proofs.YtgdcafbdkidamaaGreatDoorW.PrintLast Go.Proofs.YtgdcafbdkidamaaGreatDoorW.PrintMore Go.Proofs.YtgdcafbdkidamaaGreatDoor.K0 Go.Proofs.YtgdcafbdkidamaaGreatDoor.K2 Go.Proofs.YtgdcafbdkidamaaGreatDoor.K3 Go.Proofs.YtgdcafbdkidamaaGreatDoor.K4 Go.Proofs.YtgdcafbdkidamaaGreatDoor.K5 Go.Proofs.YtgdcafbdkidamaaGreatDoor.K8 Go.Proofs.YtgdcafbdkidamaaGreatDoor.K9 Go.Proofs.YtgdcafbdkidamaaGreatDoor.S5 Go.Proofs.YtgdcafbdkidamaaGreatDoor.T5 Go.Proofs.YtgdcafbdkidamaaGreatDoor.G2 Go.Proofs.YtgdcafbdkidamaaGreatDoor.T6 Go.Proofs.YtgdcafbdkidamaaGreatDoor.T7 Go.Proofs.YtgdcafbdkidamaaGreatDoor.Hf Go.Proofs.YtgdcafbdkidamaaGreatDoor.Hp Go.Proofs.YtgdcafbdkidamaaGreatDoor.B
set_option linter.unusedVariables false
set_option linter.unusedSimpArgs false
def dkp : ByteArray := ⟨#[68, 101, 114, 105, 118, 101, 75, 101, 121, 80, 97, 105, 114]⟩
/-- the i-th number of a seed -/
def kd (m : Int) (seed info : ByteArray) (i : Nat) : Int := (htsV ((seed ++ szd info) ++ strOfNums [(i : Int)]) (tagV dkp m)).1
/-- the first that is not zero, of d more -/
def dkF (m : Int) (seed info : ByteArray) : Nat → Nat → Int × Int
  | 0, _ => (0, 3)
  | d + 1, i => if kd m seed info i = 0 then dkF m seed info d (i + 1) else (kd m seed info i, 0)
def dk (m : Int) (seed info : ByteArray) : Int × Int := if m < 0 ∨ 2 < m ∨ seed.size ≠ 32 ∨ 60000 < info.size then (0, 1) else dkF m seed info 256 0
def pts (seed info : ByteArray) (i : Nat) : List Part := [.bare seed, .sized info, .bare (strOfNums [(i : Int)])]
theorem ttx_pts (seed info : ByteArray) (i : Nat) : ttx (pts seed info i) = (seed ++ szd info) ++ strOfNums [(i : Int)] := by
  unfold ttx tbs pts
  simp only [List.map_cons, List.map_nil, List.flatten_cons, List.flatten_nil, Part.txt, List.append_nil]
  rw [← Array.toList_append, ← Array.toList_append, ← ByteArray.data_append, ← ByteArray.data_append, ByteArray.append_assoc]
theorem ttot_pts (seed info : ByteArray) (i : Nat) (h1 : seed.size = 32) (h2 : info.size ≤ 60000) : ttot (pts seed info i) < 70368744177664 := by
  have e : (strOfNums [(i : Int)]).size = 1 := rfl
  unfold ttot pts
  simp only [List.map_cons, List.map_nil, List.sum_cons, List.sum_nil, Part.txt, szd_size, e]
  omega
theorem ok_pts (seed info : ByteArray) (i : Nat) (h1 : seed.size = 32) (h2 : info.size ≤ 60000) : ∀ p ∈ pts seed info i, p.ok := by
  have e : (strOfNums [(i : Int)]).size = 1 := rfl
  intro p hp
  unfold pts at hp
  simp only [List.mem_cons, List.not_mem_nil, or_false] at hp
  rcases hp with rfl | rfl | rfl
  · show seed.size < _; omega
  · show info.size < _; omega
  · show (strOfNums [(i : Int)]).size < _; rw [e]; omega
set_option maxRecDepth 100000 in
set_option maxHeartbeats 8000000 in
theorem dk_c (m : Int) (seed info : ByteArray) (w : World) (hi : info.size < 274877906944) (hs : seed.size < 274877906944) (hG : G w) :
    Calls Tryz.prog 39 #[.int .i64 m, .string seed, .string info] w fun e w' => e = .returned (.tuple #[.int .u64 (dk m seed info).1, .int .i64 (dk m seed info).2]) ∧ Below w.heap.size w w' := by
  have hG' := Lib.hid hG
  clear hG
  by_cases hg : m < 0 ∨ 2 < m ∨ seed.size ≠ 32 ∨ 60000 < info.size
  · have e0 := Lib.hid (show dk m seed info = (0, 1) by unfold dk; rw [if_pos hg])
    have hgm : ∀ W, Calls Tryz.prog 50 #[.int .i64 m] W fun e w' => e = .returned (.bool (decide (0 ≤ m ∧ m ≤ 2))) ∧ w' = W := fun W => by
      go_enter Tryz.func50, Tryz.ntmps50
      by_cases h0 : m ≥ 0
      · go_wp2_with fail
        go_ret
        exact ⟨by congr 2; first | (exact (decide_eq_decide.2 (by omega)) ) | simp [h0], rfl⟩
      · go_wp2_with fail
        go_ret
        exact ⟨by rw [show decide (0 ≤ m) = false from decide_eq_false (by omega)]; rfl, rfl⟩
    by_cases hm : 0 ≤ m ∧ m ≤ 2
    · have hgm' := Lib.hid (show ∀ W, Calls Tryz.prog 50 #[.int .i64 m] W fun e w' => e = .returned (.bool true) ∧ w' = W from fun W => (hgm W).mono fun e w' ⟨a, b⟩ => ⟨by rw [a, decide_eq_true hm], b⟩)
      clear hgm
      by_cases h3 : (seed.size : Int) = 32
      · have h4 : (info.size : Int) > 60000 := by omega
        clear hg
        go_enter Tryz.func39, Tryz.ntmps39
        go_wp2_with (go_at_call 50; (with_reducible refine (hgm'.out _).mono ?_); rintro e w2 ⟨rfl, hw2⟩; obtain rfl := hw2.symm)
        go_ret2
        rw [e0.out]
        exact ⟨rfl, Below.refl _ _⟩
      · clear hg
        go_enter Tryz.func39, Tryz.ntmps39
        go_wp2_with (go_at_call 50; (with_reducible refine (hgm'.out _).mono ?_); rintro e w2 ⟨rfl, hw2⟩; obtain rfl := hw2.symm)
        go_ret2
        rw [e0.out]
        exact ⟨rfl, Below.refl _ _⟩
    · have hgm' := Lib.hid (show ∀ W, Calls Tryz.prog 50 #[.int .i64 m] W fun e w' => e = .returned (.bool false) ∧ w' = W from fun W => (hgm W).mono fun e w' ⟨a, b⟩ => ⟨by rw [a, decide_eq_false hm], b⟩)
      clear hgm hg
      go_enter Tryz.func39, Tryz.ntmps39
      go_wp2_with (go_at_call 50; (with_reducible refine (hgm'.out _).mono ?_); rintro e w2 ⟨rfl, hw2⟩; obtain rfl := hw2.symm)
      go_ret2
      rw [e0.out]
      exact ⟨rfl, Below.refl _ _⟩
  · have e0 := Lib.hid (show dk m seed info = dkF m seed info 256 0 by unfold dk; rw [if_neg hg])
    have h0 : 0 ≤ m := by omega
    have h2 : m ≤ 2 := by omega
    have h3n : seed.size = 32 := by omega
    have h4n : info.size ≤ 60000 := by omega
    have h3 : (seed.size : Int) = 32 := by omega
    have h4 : ¬ (info.size : Int) > 60000 := by omega
    have hgm' := Lib.hid (show ∀ W, Calls Tryz.prog 50 #[.int .i64 m] W fun e w' => e = .returned (.bool true) ∧ w' = W from fun W => by
      have h0' : m ≥ 0 := h0
      go_enter Tryz.func50, Tryz.ntmps50
      go_wp2_with fail
      go_ret
      exact ⟨rfl, rfl⟩)
    have k0 := Lib.hid h0
    have k2 := Lib.hid h2
    have k3 := Lib.hid h3n
    have k4 := Lib.hid h4n
    clear hg hi hs h0 h2 h3n h4n
    go_enter Tryz.func39, Tryz.ntmps39
    go_wp2_with (go_at_call 50; (with_reducible refine (hgm'.out _).mono ?_); rintro e w2 ⟨rfl, hw2⟩; obtain rfl := hw2.symm)
    clear h3 h4
    go_loopw [23] (fun i wr => ∃ k : Nat, k ≤ 256 ∧ i = .int .i64 k ∧ dkF m seed info 256 0 = dkF m seed info (256 - k) k ∧ Below w.heap.size w wr) (fun i _ => 256 - (intOf i).toNat)
    case atStart => exact ⟨0, by omega, rfl, rfl, Below.refl _ _⟩
    case round =>
      obtain ⟨k, hk, rfl, hF, hb⟩ := hrel
      have hF' := Lib.hid hF
      have hb' := Lib.hid hb
      clear hF hb
      by_cases hlt : k < 256
      · have hlt2 : (k : Int) < 256 := by omega
        have hs1 := str1 wr (k : Int)
        go_wp2_with fail
        go_at_call 90
        have hbs := (below_alloc wr (.cells #[.int .u8 (k : Int)] 5 (0, 0))).trans ((below_alloc (wr.alloc (.cells #[.int .u8 (k : Int)] 5 (0, 0))) (.cells #[Part.val (.bare seed), Part.val (.sized info), Part.val (.bare (strOfNums [(k : Int)]))] 162 (0, 0))).mono (by simp))
        refine (scalar_c m dkp (wr.heap.size + 1) (pts seed info k) 3 _ k0.out k2.out (by decide) (ttot_pts seed info k k3.out k4.out) (show 3 < 1000 by decide) (ok_pts seed info k k3.out k4.out) (G_below hbs (G_below hb'.out hG'.out)) ⟨_, _, heap_alloc2_new wr _ _⟩).mono ?_
        rintro e w3 ⟨rfl, hb3⟩
        rw [ttx_pts]
        have hkd : (htsV ((seed ++ szd info) ++ strOfNums [(k : Int)]) (tagV dkp m)).1 = kd m seed info k := rfl
        rw [hkd]
        have hbb := Lib.hid ((hb'.out.trans (hbs.mono hb'.out.size)).trans (hb3.mono (Nat.le_trans hb'.out.size hbs.size)))
        have hst := Lib.hid (show dkF m seed info (256 - k) k = if kd m seed info k = 0 then dkF m seed info (256 - (k + 1)) (k + 1) else (kd m seed info k, 0) by rw [show 256 - k = (256 - (k + 1)) + 1 by omega]; rfl)
        clear hbs hb3 hs1 hkd
        generalize kd m seed info k = z at *
        by_cases hz : z = 0
        · subst hz
          go_wp2_with fail
          go_roundw
          case rel => exact ⟨k + 1, by omega, by go_num, by rw [hF'.out, hst.out]; exact if_pos trivial, hbb.out⟩
          case measure => simp [intOf]; omega
        · go_wp2_with fail
          go_ret2
          rw [e0.out, hF'.out, hst.out, if_neg hz]
          exact ⟨rfl, hbb.out⟩
      · have hlt2 : ¬ (k : Int) < 256 := by omega
        have hk2 : 256 - k = 0 := by omega
        go_wp2_with fail
        go_ret2
        rw [e0.out, hF'.out, hk2]
        exact ⟨rfl, hb'.out⟩
def impl_DeriveKey.f (m : Int) (seed info : ByteArray) : Option (Int × Int) := if seed.size < 274877906944 then if info.size < 274877906944 then some (dk m seed info) else none else none
theorem impl_DeriveKey.calls (m : Int) (seed info : ByteArray) (r1 r2 : Int) (w : World) (hG : G w) (h : impl_DeriveKey.f m seed info = some (r1, r2)) :
    Calls Tryz.prog 39 #[.int .i64 m, .string seed, .string info] w fun e w' => e = .returned (.tuple #[.int .u64 r1, .int .i64 r2]) ∧ Below w.heap.size w w' := by
  unfold impl_DeriveKey.f at h
  split at h
  · split at h
    · have h2 := Option.some.inj h
      have e1 : (dk m seed info).1 = r1 := by rw [h2]
      have e2 : (dk m seed info).2 = r2 := by rw [h2]
      rw [← e1, ← e2]
      exact dk_c m seed info w (by assumption) (by assumption) hG
    · cases h
  · cases h
end Go.Proofs.YtgdcafbdkidamaaGreatDoor.DK
end
section
namespace Go.Proofs.YtgdcafbdkidamaaGreatDoor.Sdk
open Go Go.RowKit Go.Proofs.YtgdcafbdkidamaaGreatDoorW.PrintWords Go.Proofs.YtgdcafbdkidamaaGreatDoorW.PrintLast Go.Proofs.YtgdcafbdkidamaaGreatDoorW.PrintMore Go.Proofs.YtgdcafbdkidamaaGreatDoor.Ve Go.Proofs.YtgdcafbdkidamaaGreatDoor.VeT Go.Proofs.YtgdcafbdkidamaaGreatDoor.VeE Go.Proofs.YtgdcafbdkidamaaGreatDoor.B Go.Proofs.YtgdcafbdkidamaaGreatDoor.C Go.Proofs.YtgdcafbdkidamaaGreatDoor.S5 Go.Proofs.YtgdcafbdkidamaaGreatDoor.T5 Go.Proofs.YtgdcafbdkidamaaGreatDoor.T7 Go.Proofs.YtgdcafbdkidamaaGreatDoor.DK Go.Proofs.YtgdcafbdkidamaaGreatDoor.Hp
set_option linter.unusedVariables false
set_option linter.unusedSimpArgs false
abbrev tBs : TypeId := 46
abbrev tU8 : TypeId := 5
theorem cv1 (x : Int) (g : Nat) (w : World) {t : TypeId} (h : w.heap[g]? = some (.cells [.int .u8 x].toArray t (0, 0))) : (convert tBs 9 (.slice (some ⟨g, 0, none⟩) 1 1)).run Tryz.prog w = .ok (.string (strOfNums [x])) w :=
  own_string (P := Tryz.prog) (base := 0) (n := 1) (e' := t) Tryz.underlying46 Tryz.underlying5 Tryz.underlying9 (xs := [x]) ⟨rfl, .inr ⟨g, 1, _, rfl, Nat.zero_le _, h, Nat.le_refl _, by unfold maxLen; decide, rfl, rfl⟩⟩
set_option maxRecDepth 100000 in
set_option maxHeartbeats 8000000 in
theorem dk_ok (m : Int) (seed info : ByteArray) (hm0 : 0 ≤ m) (hm2 : m ≤ 2) (h3 : seed.size = 32) (h4 : info.size ≤ 60000) (w : World) :
    Calls Tryz.prog 38 #[.int .i64 m, .string seed, .string info] w fun e w' => e = .returned (.tuple #[.int .u64 (dkF m seed info 256 0).1, .int .i64 (dkF m seed info 256 0).2]) ∧ Below w.heap.size w w' := by
  have hM : ∀ w, Calls Tryz.prog 87 #[.int .i64 m] w _ := fun w => drb (spec_l5Mode.calls m true w (by unfold spec_l5Mode.f; rw [if_pos hm0]; simp [hm2]))
  have hZ : ∀ w, Calls Tryz.prog 78 #[.string info] w _ := fun w => spec_l5Sized.calls info (szd info) w (by unfold spec_l5Sized.f; rw [if_pos (by omega)])
  have hT : ∀ w, Calls Tryz.prog 89 #[.string ⟨#[68, 101, 114, 105, 118, 101, 75, 101, 121, 80, 97, 105, 114]⟩, .int .i64 m] w _ := fun w => spec_l5Tag.calls _ m (tagV dkp m) w (by unfold spec_l5Tag.f; rw [if_pos hm0, if_pos hm2, if_pos (by decide)]; rfl)
  have hH : ∀ (z : Nat) (w : World), Calls Tryz.prog 88 #[.string ((seed ++ szd info) ++ strOfNums [(z : Int)]), .string (tagV dkp m)] w fun e w' => e = .returned (.tuple #[.int .u64 (kd m seed info z), .bool (htsV ((seed ++ szd info) ++ strOfNums [(z : Int)]) (tagV dkp m)).2]) ∧ Below w.heap.size w w' :=
    fun z w => spec_HashToScalar.calls 701000 _ _ _ _ w (hts_spec _ _ (Nat.le_refl _))
  have s1 : seed.size + (szd info).size ≤ 9223372036854775807 := by rw [szd_size]; omega
  have s2 : ∀ x : Int, (seed ++ szd info).size + (strOfNums [x]).size ≤ 9223372036854775807 := fun x => by
    have e4 : (strOfNums [x]).size = 1 := rfl
    rw [app_size, szd_size, e4]; omega
  have b1 : ((seed.size : Int) != 32) = false := by rw [bne_eq_false_iff_eq]; omega
  have b2 : decide ((info.size : Int) > 60000) = false := decide_eq_false (by omega)
  refine ve_fn (args := [.int .i64 m, .string seed, .string info]) Tryz.func38 rfl Tryz.ntmps38 rfl (good (Γ := fun _ => True) (fun _ _ => trivial)) ?_
  obtain ⟨z, hz⟩ : ∃ z : Nat, z = 0 := ⟨0, rfl⟩
  obtain ⟨d, hd⟩ : ∃ d : Nat, d = 256 := ⟨256, rfl⟩
  rw [show dkF m seed info 256 0 = dkF m seed info d z by rw [hz, hd]]
  generalize szd info = si at *
  generalize tagV dkp m = tg at *
  clear hm0 hm2 h3 h4
  repeat' (first | refine rbt ?_ | refine rbf ?_ | refine wn ?_ | refine wq ?_ | refine wc_plain ?_ | refine wc_draw ?_ | refine rZ ?_ | refine rD ?_ | refine ve8 ?_ | refine ve4 ?_ | refine ve3 ?_ | refine ve1 ?_ | refine ve2 ?_ | refine ve5 ?_ | refine ve6 ?_ | refine ve7 ?_ | refine ve9 ?_ | refine rA ?_ | refine rE ?_ | refine rC ?_ | refine rB ?_ | refine rG ?_ | refine rH ?_ | refine rI ?_ | refine rJ ?_ | refine rcb ?_ | refine rc (fun w_ _ => hM w_) ?_ | refine wc_loop (d + 1) ?_ | refine wb ?_ | refine wk ?_ | refine we ?_ | exact wt | refine wr ?_ | refine rr1 ?_ | refine rr2 ?_ | exact fr | exact fe | refine wTs ?_ | refine wFs ?_ | refine rof ?_ | refine rof0 ?_)
  refine wl_inv (l := [(0, .v (.int .i64 m)), (1, .v (.string seed)), (2, .v (.string info)), (8, .v (.int .i64 (z : Int)))]) [0, 1, 2, 8] 0 ?_ (by subst hz; rfl)
  have hzd : z + d = 256 := by omega
  clear hz hd hM b1 b2
  induction d generalizing z with
  | zero =>
    intro V
    refine wl_succ ?_
    obtain rfl : z = 256 := by omega
    have hF : dkF m seed info 0 256 = (0, 3) := rfl
    rw [hF]
    repeat' (first | refine rbt ?_ | refine rbf ?_ | refine wn ?_ | refine wq ?_ | refine wc_plain ?_ | refine wc_draw ?_ | refine rZ ?_ | refine rD ?_ | refine ve8 ?_ | refine ve4 ?_ | refine ve3 ?_ | refine ve1 ?_ | refine ve2 ?_ | refine ve5 ?_ | refine ve6 ?_ | refine ve7 ?_ | refine ve9 ?_ | refine rA ?_ | refine rE ?_ | refine rC ?_ | refine rB ?_ | refine rG ?_ | refine rH ?_ | refine rI ?_ | refine rJ ?_ | refine rcb ?_ | refine wb ?_ | refine wk ?_ | refine we ?_ | exact wt | refine wr ?_ | refine rr1 ?_ | refine rr2 ?_ | exact fr | exact fe | refine wTs ?_ | refine wFs ?_ | refine rof ?_ | refine rof0 ?_)
  | succ d ih =>
    intro V
    refine wl_succ ?_
    have hF : dkF m seed info (d + 1) z = if kd m seed info z = 0 then dkF m seed info d (z + 1) else (kd m seed info z, 0) := rfl
    have hz := hH z
    have hw : IntKind.u8.wrap (z : Int) = z := by simp only [IntKind.wrap, IntKind.bits, IntKind.signed]; simp; omega
    have hlt : decide ((z : Int) < 256) = true := decide_eq_true (by omega)
    have s3 := s2 (IntKind.u8.wrap (z : Int))
    rw [← hw] at hz
    rw [hF]
    generalize kd m seed info z = kz at *
    by_cases hk : kz = 0
    · subst hk
      rw [if_pos rfl]
      repeat' (first | refine rbt ?_ | refine rbf ?_ | refine wn ?_ | refine wq ?_ | refine wc_plain ?_ | refine wc_draw ?_ | refine rZ ?_ | refine rD ?_ | refine ve8 ?_ | refine ve4 ?_ | refine ve3 ?_ | refine ve1 ?_ | refine ve2 ?_ | refine ve5 ?_ | refine ve6 ?_ | refine ve7 ?_ | refine ve9 ?_ | refine rA ?_ | refine rE ?_ | refine rC ?_ | refine rB ?_ | refine rG ?_ | refine rH ?_ | refine rI ?_ | refine rJ ?_ | refine rcb ?_ | refine rc (fun w_ _ => hZ w_) ?_ | refine rc (fun w_ _ => hT w_) ?_ | refine rc (fun w_ _ => hz w_) ?_ | refine rbs (ty := tBs) tU8 ?_ | refine rcv (fun g_ w_ hb_ => cv1 _ g_ w_ hb_) ?_ | refine wb ?_ | refine wk ?_ | refine we ?_ | exact wt | refine wr ?_ | refine rr1 ?_ | refine rr2 ?_ | exact fr | exact fe | refine wTs ?_ | refine wFs ?_ | refine rof ?_ | refine rof0 ?_)
      have hwz : IntKind.i64.wrap ((z : Int) + 1) = ((z + 1 : Nat) : Int) := by rw [IntWalk.i64_in _ (by omega)]; omega
      refine wl_inv (l := [(0, .v (.int .i64 m)), (1, .v (.string seed)), (2, .v (.string info)), (8, .v (.int .i64 ((z + 1 : Nat) : Int)))]) [0, 1, 2, 8] 0 (ih (z + 1) (by omega)) (Eq.trans (b := some [(0, .v (.int .i64 m)), (1, .v (.string seed)), (2, .v (.string info)), (8, .v (.int .i64 (IntKind.i64.wrap ((z : Int) + 1))))]) (by rfl) (by rw [hwz]))
    · rw [if_neg hk]
      have b3 : (kz != 0) = true := by rw [bne_iff_ne]; exact hk
      clear hk
      repeat' (first | refine rbt ?_ | refine rbf ?_ | refine wn ?_ | refine wq ?_ | refine wc_plain ?_ | refine wc_draw ?_ | refine rZ ?_ | refine rD ?_ | refine ve8 ?_ | refine ve4 ?_ | refine ve3 ?_ | refine ve1 ?_ | refine ve2 ?_ | refine ve5 ?_ | refine ve6 ?_ | refine ve7 ?_ | refine ve9 ?_ | refine rA ?_ | refine rE ?_ | refine rC ?_ | refine rB ?_ | refine rG ?_ | refine rH ?_ | refine rI ?_ | refine rJ ?_ | refine rcb ?_ | refine rc (fun w_ _ => hZ w_) ?_ | refine rc (fun w_ _ => hT w_) ?_ | refine rc (fun w_ _ => hz w_) ?_ | refine rbs (ty := tBs) tU8 ?_ | refine rcv (fun g_ w_ hb_ => cv1 _ g_ w_ hb_) ?_ | refine wb ?_ | refine wk ?_ | refine we ?_ | exact wt | refine wr ?_ | refine rr1 ?_ | refine rr2 ?_ | exact fr | exact fe | refine wTs ?_ | refine wFs ?_ | refine rof ?_ | refine rof0 ?_)
set_option maxRecDepth 100000 in
set_option maxHeartbeats 8000000 in
theorem dk_no (m : Int) (seed info : ByteArray) (h : ¬ (0 ≤ m ∧ m ≤ 2 ∧ seed.size = 32 ∧ info.size ≤ 60000)) (w : World) :
    Calls Tryz.prog 38 #[.int .i64 m, .string seed, .string info] w fun e w' => e = .returned (.tuple #[.int .u64 0, .int .i64 1]) ∧ Below w.heap.size w w' := by
  refine ve_fn (args := [.int .i64 m, .string seed, .string info]) Tryz.func38 rfl Tryz.ntmps38 rfl (good (Γ := fun _ => True) (fun _ _ => trivial)) ?_
  by_cases hm : 0 ≤ m ∧ m ≤ 2
  · have hM : ∀ w, Calls Tryz.prog 87 #[.int .i64 m] w _ := fun w => drb (spec_l5Mode.calls m true w (by unfold spec_l5Mode.f; rw [if_pos hm.1]; simp [hm.2]))
    by_cases h3 : seed.size = 32
    · have b1 : ((seed.size : Int) != 32) = false := by rw [bne_eq_false_iff_eq]; omega
      have b2 : decide ((info.size : Int) > 60000) = true := decide_eq_true (by have := fun q => h ⟨hm.1, hm.2, h3, q⟩; omega)
      clear h hm h3
      repeat' (first | refine rbt ?_ | refine rbf ?_ | refine wn ?_ | refine wq ?_ | refine wc_plain ?_ | refine wc_draw ?_ | refine rZ ?_ | refine rD ?_ | refine ve8 ?_ | refine ve4 ?_ | refine ve3 ?_ | refine ve1 ?_ | refine ve2 ?_ | refine ve5 ?_ | refine ve6 ?_ | refine ve7 ?_ | refine ve9 ?_ | refine rA ?_ | refine rE ?_ | refine rC ?_ | refine rB ?_ | refine rG ?_ | refine rH ?_ | refine rI ?_ | refine rJ ?_ | refine rcb ?_ | refine rc (fun w_ _ => hM w_) ?_ | refine wb ?_ | refine wk ?_ | refine we ?_ | exact wt | refine wr ?_ | refine rr1 ?_ | refine rr2 ?_ | exact fr | exact fe | refine wTs ?_ | refine wFs ?_ | refine rof ?_ | refine rof0 ?_)
    · have b1 : ((seed.size : Int) != 32) = true := by rw [bne_iff_ne]; omega
      clear h hm h3
      repeat' (first | refine rbt ?_ | refine rbf ?_ | refine wn ?_ | refine wq ?_ | refine wc_plain ?_ | refine wc_draw ?_ | refine rZ ?_ | refine rD ?_ | refine ve8 ?_ | refine ve4 ?_ | refine ve3 ?_ | refine ve1 ?_ | refine ve2 ?_ | refine ve5 ?_ | refine ve6 ?_ | refine ve7 ?_ | refine ve9 ?_ | refine rA ?_ | refine rE ?_ | refine rC ?_ | refine rB ?_ | refine rG ?_ | refine rH ?_ | refine rI ?_ | refine rJ ?_ | refine rcb ?_ | refine rc (fun w_ _ => hM w_) ?_ | refine wb ?_ | refine wk ?_ | refine we ?_ | exact wt | refine wr ?_ | refine rr1 ?_ | refine rr2 ?_ | exact fr | exact fe | refine wTs ?_ | refine wFs ?_ | refine rof ?_ | refine rof0 ?_)
  · have hM : ∀ w, Calls Tryz.prog 87 #[.int .i64 m] w _ := fun w => drb (spec_l5Mode.calls m false w (by
      unfold spec_l5Mode.f
      by_cases q : m ≥ 0
      · rw [if_pos q]; congr 1; exact decide_eq_false (fun z => hm ⟨q, z⟩)
      · rw [if_neg q]))
    clear h hm
    repeat' (first | refine rbt ?_ | refine rbf ?_ | refine wn ?_ | refine wq ?_ | refine wc_plain ?_ | refine wc_draw ?_ | refine rZ ?_ | refine rD ?_ | refine ve8 ?_ | refine ve4 ?_ | refine ve3 ?_ | refine ve1 ?_ | refine ve2 ?_ | refine ve5 ?_ | refine ve6 ?_ | refine ve7 ?_ | refine ve9 ?_ | refine rA ?_ | refine rE ?_ | refine rC ?_ | refine rB ?_ | refine rG ?_ | refine rH ?_ | refine rI ?_ | refine rJ ?_ | refine rcb ?_ | refine rc (fun w_ _ => hM w_) ?_ | refine wb ?_ | refine wk ?_ | refine we ?_ | exact wt | refine wr ?_ | refine rr1 ?_ | refine rr2 ?_ | exact fr | exact fe | refine wTs ?_ | refine wFs ?_ | refine rof ?_ | refine rof0 ?_)
end Go.Proofs.YtgdcafbdkidamaaGreatDoor.Sdk
namespace Go.Proofs.YtgdcafbdkidamaaGreatDoor.C
open Go Go.RowKit Go.Proofs.YtgdcafbdkidamaaGreatDoorW.PrintWords Go.Proofs.YtgdcafbdkidamaaGreatDoor.DK
def spec_DeriveKey.f (_k : Nat) (m : Int) (seed info : ByteArray) : Option (Int × Int) := some (dk m seed info)
theorem spec_DeriveKey.calls (k : Nat) (m : Int) (seed info : ByteArray) (r1 r2 : Int) (w : World) (h : spec_DeriveKey.f k m seed info = some (r1, r2)) :
    Calls Tryz.prog 38 #[.int .i64 m, .string seed, .string info] w fun e w' => e = .returned (.tuple #[.int .u64 r1, .int .i64 r2]) ∧ Below w.heap.size w w' := by
  have h2 : dk m seed info = (r1, r2) := Option.some.inj h
  by_cases g : 0 ≤ m ∧ m ≤ 2 ∧ seed.size = 32 ∧ info.size ≤ 60000
  · have e : dk m seed info = dkF m seed info 256 0 := by unfold dk; rw [if_neg (by omega)]
    have := Sdk.dk_ok m seed info g.1 g.2.1 g.2.2.1 g.2.2.2 w
    rw [← e, h2] at this
    exact this
  · have e : dk m seed info = (0, 1) := by unfold dk; rw [if_pos (by omega)]
    rw [e] at h2
    obtain ⟨rfl, rfl⟩ := Prod.mk.inj h2
    exact Sdk.dk_no m seed info g w
end Go.Proofs.YtgdcafbdkidamaaGreatDoor.C
end
section
namespace Go.Proofs.YtgdcafbdkidamaaGreatDoor.Pure
open Go.RowKit Go.Proofs.YtgdcafbdkidamaaGreatDoor.Hf Go.Proofs.YtgdcafbdkidamaaGreatDoor.Hp Go.Proofs.YtgdcafbdkidamaaGreatDoorW.PrintWords Go.Proofs.YtgdcafbdkidamaaGreatDoorW.PrintLast Go.Proofs.YtgdcafbdkidamaaGreatDoorW.PrintMore
theorem rdm_range {m : Int} (hm : 0 < m) (a : ByteArray) : 0 ≤ rdm m a ∧ rdm m a < m := by
  unfold rdm
  split
  · omega
  · exact Pure.red_range hm _ _ _ (by omega) hm
theorem rd_hl (m : Int) (hm : 0 < m) (s : ByteArray) : ∀ (j i : Nat), i < j → 0 ≤ rd (Hf.hl m s j) i ∧ rd (Hf.hl m s j) i < m
  | 0, i, h => by omega
  | j + 1, i, h => by
    unfold rd
    rw [Hf.hl, List.getD_eq_getElem?_getD]
    simp only [Int.toNat_natCast]
    by_cases e : i = j
    · subst e
      rw [List.getElem?_append_right (by rw [hl_len]; omega), hl_len, Nat.sub_self]
      exact rdm_range hm _
    · rw [List.getElem?_append_left (by rw [hl_len]; omega)]
      have := rd_hl m hm s j i (by omega)
      unfold rd at this
      rw [List.getD_eq_getElem?_getD] at this
      simpa using this
end Go.Proofs.YtgdcafbdkidamaaGreatDoor.Pure
end
