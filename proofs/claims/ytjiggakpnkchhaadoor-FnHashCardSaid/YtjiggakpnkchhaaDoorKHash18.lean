/- What the proof of FnHash leans on, part 18: cut out of the texts of this claim's making by a program (wip/tools/pack.py). -/
import Derived.Test.YtjiggakpnkchhaaDoorKHash5
import Derived.Test.YtjiggakpnkchhaaDoorKHash12
import Derived.Test.YtjiggakpnkchhaaDoorKHash13
import Derived.Test.YtjiggakpnkchhaaDoorKHash15
import Derived.Test.YtjiggakpnkchhaaDoorKHash17
section
namespace Go.Proofs.YtjiggakpnkchhaaDoor.Pure
open Go.RowKit Go.Proofs.YtjiggakpnkchhaaDoor.Hf Go.Proofs.YtjiggakpnkchhaaDoor.Hp Go.Proofs.YtjiggakpnkchhaaDoor.R1 Go.Proofs.YtjiggakpnkchhaaDoor.K8 Go.Proofs.YtjiggakpnkchhaaDoor.Ks Go.Proofs.YtjiggakpnkchhaaDoor.KG2 Go.Proofs.YtjiggakpnkchhaaDoor.KH2 Go.Proofs.YtjiggakpnkchhaaDoor.KE2 Go.Proofs.YtjiggakpnkchhaaDoor.B Go.Proofs.YtjiggakpnkchhaaDoor.C Go.Proofs.YtjiggakpnkchhaaDoor.E Go.Proofs.YtjiggakpnkchhaaDoorW.PrintWords Go.Proofs.YtjiggakpnkchhaaDoorW.PrintLast Go.Proofs.YtjiggakpnkchhaaDoorW.PrintMore
set_option linter.unusedVariables false
set_option linter.unusedSimpArgs false
namespace Hsh
theorem em1_all (a t : ByteArray) : (em1 a t 24).extract (24 * 0) (24 * (0 + 1)) = em1 a t 24 := by
  have h := ByteArray.extract_zero_size (b := em1 a t 24)
  rw [em1_size] at h
  exact h
theorem j5 (a t : ByteArray) (k : Nat) (hk : 701001 ≤ k) : laws_FnHash.j5 k a t false = some true := by
  obtain ⟨k, rfl⟩ : ∃ i, k = i + 1 := ⟨k - 1, by omega⟩
  rw [laws_FnHash.j5, if_neg (by decide), impl_htf a t _ 1 (by omega) (by omega) (by omega)]
  unfold impl_ExpandMessage.f htf
  by_cases c : t.size < 1 ∨ 255 < t.size ∨ 65535 < a.size
  · rw [if_pos (by omega), if_neg (by omega), if_pos c]; rfl
  · rw [if_neg (by omega), if_neg (by omega), if_neg c, Option.bind_some, Option.bind_some, if_neg (by simp), if_pos rfl]
    have e : hl 2305843009213693951 (em1 a t (24 * (1 : Int).toNat)) (1 : Int).toNat = [rdm 2305843009213693951 (em1 a t 24)] := by
      show [] ++ [rdm 2305843009213693951 ((em1 a t 24).extract (24 * 0) (24 * (0 + 1)))] = _
      rw [em1_all]; rfl
    rw [e, if_pos (by rfl)]
    show (if (0 : Int) < ((1 : Nat) : Int) then (impl_Reduce.f k (em1 a t (24 : Int).toNat) 2305843009213693951).bind fun x => some (rd [rdm 2305843009213693951 (em1 a t 24)] 0 == x) else none) = some true
    rw [if_pos (by decide)]
    have e2 : impl_Reduce.f k (em1 a t (24 : Int).toNat) 2305843009213693951 = some (rdm 2305843009213693951 (em1 a t 24)) := impl_reduce _ _ (by omega) (by omega) (by omega)
    rw [e2, Option.bind_some]
    have e3 : rd [rdm 2305843009213693951 (em1 a t 24)] 0 = rdm 2305843009213693951 (em1 a t 24) := rfl
    rw [e3]; simp
theorem j4 (l : List Int) {K : Nat} {s t : ByteArray} {n : Int} (hd : ∀ k, K ≤ k → spec_DrawExpandMessage.f k l = some (s, t, n)) (k : Nat) (hk : 701002 + K ≤ k) : laws_FnHash.j4 k l = some true := by
  obtain ⟨k, rfl⟩ : ∃ i, k = i + 1 := ⟨k - 1, by omega⟩
  rw [laws_FnHash.j4, hd k (by omega), Option.bind_some, em_spec s t n k (by omega)]
  unfold impl_ExpandMessage.f
  by_cases c : t.size < 1 ∨ 255 < t.size ∨ n < 1 ∨ 8160 < n ∨ 65535 < s.size
  · rw [if_pos c, Option.bind_some, Option.bind_some, if_neg (by simp), if_neg (by simp)]
    exact j5 s t k (by omega)
  · rw [if_neg c, Option.bind_some, Option.bind_some, if_neg (by simp), if_pos rfl]
    have e : (((em1 s t n.toNat).size : Int) != n) = false := by rw [em1_size]; simp; omega
    rw [e]
    exact j5 s t k (by omega)
theorem oE_pre (key info : ByteArray) (j : Nat) : ∀ d, (oE kk key info (j + d)).take (32 * j) = oE kk key info j
  | 0 => List.take_of_length_le (by rw [Nat.add_zero, oE_len]; exact Nat.le_refl _)
  | d + 1 => by
    rw [← Nat.add_assoc, oE, List.take_append_of_le_length (by rw [oE_len]; omega)]
    exact oE_pre key info j d
theorem exp1_size (key info : ByteArray) (n : Nat) : (exp1 key info n).size = n := by
  show (List.toArray _).size = n
  rw [List.size_toArray, List.length_take, oE_len]; omega
theorem exp1_pre (key info : ByteArray) (n m : Nat) (h : m ≤ n) : (exp1 key info n).extract 0 m = exp1 key info m := by
  unfold exp1
  have e : (oE kk key info ((m + 31) / 32)).take m = ((oE kk key info ((n + 31) / 32)).take n).take m := by
    obtain ⟨d, hd⟩ : ∃ d, (n + 31) / 32 = (m + 31) / 32 + d := ⟨(n + 31) / 32 - (m + 31) / 32, by omega⟩
    rw [← oE_pre key info ((m + 31) / 32) d, ← hd, List.take_take, List.take_take, Nat.min_eq_left (by omega), Nat.min_eq_left h]
  rw [e, ByteArray.extract_mk]; simp
theorem pick (l : List Int) (hx : ∀ x ∈ l, (Go.Lit.int .u8 x).wf = true) (a : Int) (h0 : 0 ≤ a) (h1 : a ≤ 1) : ∃ v, laws_wPick.f l a = some v ∧ 0 ≤ v ∧ v < 256 := by
  unfold laws_wPick.f
  by_cases c : (l.length : Int) = 0
  · exact ⟨a, by rw [if_pos c], h0, by omega⟩
  · have t0 := Draw.tmod_nonneg h0 (show 1 ≤ (l.length : Int) by omega)
    have t1 := (Draw.tmod_range a (show 1 ≤ (l.length : Int) by omega)).2
    have r := Draw.rd_range hx (Int.tmod a l.length)
    rw [if_neg c, if_pos t0, if_pos t1, w64 (by omega) (by omega)]
    exact ⟨_, rfl, r.1, r.2⟩
theorem j3f (l m : List Int) (key info out : ByteArray) (n : Int) {K : Nat} {s t : ByteArray} {q : Int} (hd : ∀ k, K ≤ k → spec_DrawExpandMessage.f k l = some (s, t, q)) (k : Nat) (hk : 701003 + K ≤ k) : laws_FnHash.j3 k l m key info n out false = some true := by
  obtain ⟨k, rfl⟩ : ∃ i, k = i + 1 := ⟨k - 1, by omega⟩
  rw [laws_FnHash.j3, if_neg (by decide)]
  exact j4 l hd k (by omega)
theorem j3t (l m : List Int) (hx : ∀ x ∈ m, (Go.Lit.int .u8 x).wf = true) (key info : ByteArray) (n : Nat) (hn : 1 ≤ n) (hn2 : n ≤ 8160) (hks : key.size < 274877906944) (his : info.size < 274877906944)
    {K : Nat} {s t : ByteArray} {q : Int} (hd : ∀ k, K ≤ k → spec_DrawExpandMessage.f k l = some (s, t, q)) (k : Nat) (hk : 701003 + K ≤ k) : laws_FnHash.j3 k l m key info n (exp1 key info n) true = some true := by
  obtain ⟨k, rfl⟩ : ∃ i, k = i + 1 := ⟨k - 1, by omega⟩
  obtain ⟨u, eu, u0, u1⟩ := pick m hx 0 (by omega) (by omega)
  obtain ⟨v, ev, v0, v1⟩ := pick m hx 1 (by omega) (by omega)
  have t0 := Draw.tmod_nonneg (show (0 : Int) ≤ u * 256 + v by omega) (show 1 ≤ (n : Int) by omega)
  have t1 := (Draw.tmod_range (u * 256 + v) (show 1 ≤ (n : Int) by omega)).2
  rw [laws_FnHash.j3, if_pos rfl, eu, Option.bind_some, ev, Option.bind_some, if_neg (by omega), w64 (n := u * 256) (by omega) (by omega), w64 (n := u * 256 + v) (by omega) (by omega)]
  generalize Int.tmod (u * 256 + v) n = x at *
  obtain ⟨x, rfl⟩ := Int.eq_ofNat_of_zero_le t0
  have e : impl_Expand.f key info x = some (exp1 key info x, true) := by
    unfold impl_Expand.f
    rw [if_neg (by omega), if_neg (by omega), if_pos hks, if_pos his, Int.toNat_natCast]
  rw [e, Option.bind_some, if_pos rfl, if_pos t0, if_pos (by rw [exp1_size]; omega), Int.toNat_natCast, exp1_pre key info n x (by omega), if_pos rfl]
  exact j4 l hd k (by omega)
theorem main (l m : List Int) (hl : l.length ≤ 1048576) (hx : ∀ x ∈ m, (Go.Lit.int .u8 x).wf = true) : ∃ k, laws_FnHash.j0 k l m false = some true := by
  obtain ⟨K1, d1, e1, s1⟩ := Draw.drawSha l hl
  obtain ⟨K2, a2, d2, e2, s2, s2'⟩ := Draw.drawHmac l hl
  obtain ⟨K3, a3, d3, n3, e3, s3, s3', n0, n1⟩ := Draw.drawExpand l hl
  obtain ⟨K4, s4, t4, n4, e4⟩ := Draw.drawExpandMessage l hl
  refine ⟨701010 + K1 + K2 + K3 + K4 + 1, ?_⟩
  rw [laws_FnHash.j0, if_neg (by decide), e1 _ (by omega), Option.bind_some, e2 _ (by omega), Option.bind_some]
  have h1 : impl_Sha256.f d1 = some (sha1 d1) := by unfold impl_Sha256.f; rw [if_pos (by omega)]
  have h2 : spec_Sha256.f d1 = some (sha1 d1) := by unfold spec_Sha256.f; rw [if_pos (by omega)]
  have h3 : impl_Hmac.f a2 d2 = some (hm1 a2 d2) := by unfold impl_Hmac.f; rw [if_pos (by omega), if_pos (by omega)]
  rw [h1, Option.bind_some, h2, Option.bind_some, if_pos rfl, h3, Option.bind_some, hmac_spec a2 d2 (by omega) (by omega) _ (by omega), Option.bind_some]
  have hne : ((hm1 a2 d2).toList != (hm1 a2 d2).toList) = false := by simp
  rw [hne]
  rw [show 701010 + K1 + K2 + K3 + K4 = (701009 + K1 + K2 + K3 + K4) + 1 by omega, laws_FnHash.j1, if_neg (by decide), e3 _ (by omega), Option.bind_some]
  have hs := exp_spec a3 d3 n3 (by omega) (by omega)
  by_cases c : n3 < 0 ∨ 8160 < n3
  · have hi : impl_Expand.f a3 d3 n3 = some (⟨#[]⟩, false) := by
      unfold impl_Expand.f
      by_cases c1 : n3 < 0
      · rw [if_pos c1]
      · rw [if_neg c1, if_pos (by omega)]
    rw [hi] at hs
    have hs2 : spec_Expand.f (701009 + K1 + K2 + K3 + K4) a3 d3 n3 = some (⟨#[]⟩, false) := Draw.up (g := fun k => spec_Expand.f k a3 d3 n3) (spec_Expand.mono a3 d3 n3) (by omega) hs
    rw [hs2, Option.bind_some, hi, Option.bind_some, if_pos rfl]
    rw [show 701009 + K1 + K2 + K3 + K4 = (701008 + K1 + K2 + K3 + K4) + 1 by omega, laws_FnHash.j2, if_neg (by simp), if_neg (by simp)]
    exact j3f l m _ _ _ _ e4 _ (by omega)
  · obtain ⟨n, rfl⟩ := Int.eq_ofNat_of_zero_le (a := n3) (by omega)
    have hi : impl_Expand.f a3 d3 n = some (exp1 a3 d3 n, true) := by
      unfold impl_Expand.f
      rw [if_neg (by omega), if_neg (by omega), if_pos (by omega), if_pos (by omega), Int.toNat_natCast]
    rw [hi] at hs
    have hs2 : spec_Expand.f (701009 + K1 + K2 + K3 + K4) a3 d3 n = some (exp1 a3 d3 n, true) := Draw.up (g := fun k => spec_Expand.f k a3 d3 n) (spec_Expand.mono a3 d3 n) (by omega) hs
    rw [hs2, Option.bind_some, hi, Option.bind_some, if_pos rfl]
    rw [show 701009 + K1 + K2 + K3 + K4 = (701008 + K1 + K2 + K3 + K4) + 1 by omega, laws_FnHash.j2, if_neg (by simp), if_pos rfl]
    by_cases z : 1 ≤ n
    · rw [decide_eq_true (show (n : Int) > 0 by omega)]
      exact j3t l m hx a3 d3 n z (by omega) (by omega) (by omega) e4 _ (by omega)
    · rw [decide_eq_false (show ¬ (n : Int) > 0 by omega)]
      exact j3f l m _ _ _ _ e4 _ (by omega)
end Hsh
theorem FnHash : laws_FnHash.Pure := by
  intro l m _ _ _ _ _ hx
  unfold laws_FnHash.f
  by_cases c : (l.length : Int) > 1048576
  · exact ⟨1, by rw [if_pos c, laws_FnHash.j0, if_pos rfl]⟩
  · by_cases c2 : (m.length : Int) > 1048576
    · exact ⟨1, by rw [if_neg c, decide_eq_true c2, laws_FnHash.j0, if_pos rfl]⟩
    · obtain ⟨k, hk⟩ := Hsh.main l m (by omega) hx
      exact ⟨k, by rw [if_neg c, decide_eq_false c2]; exact hk⟩
end Go.Proofs.YtjiggakpnkchhaaDoor.Pure
end
