/- What the proof of FnKeys leans on, part 33: cut out of the texts of this claim's making by a program (wip/tools/pack.py). -/
import Derived.Test.YtgdcafbdkidamaaGreatDoorKKeys12
import Derived.Test.YtgdcafbdkidamaaGreatDoorKKeys20
import Derived.Test.YtgdcafbdkidamaaGreatDoorKKeys25
section
namespace Go.Proofs.YtgdcafbdkidamaaGreatDoor.Hp
open Go Go.RowKit Go.Proofs.YtgdcafbdkidamaaGreatDoorW.PrintWords Go.Proofs.YtgdcafbdkidamaaGreatDoorW.PrintLast Go.Proofs.YtgdcafbdkidamaaGreatDoorW.PrintMore Go.Proofs.YtgdcafbdkidamaaGreatDoor.K0 Go.Proofs.YtgdcafbdkidamaaGreatDoor.K3 Go.Proofs.YtgdcafbdkidamaaGreatDoor.K4 Go.Proofs.YtgdcafbdkidamaaGreatDoor.K5 Go.Proofs.YtgdcafbdkidamaaGreatDoor.K6 Go.Proofs.YtgdcafbdkidamaaGreatDoor.K8 Go.Proofs.YtgdcafbdkidamaaGreatDoor.K9 Go.Proofs.YtgdcafbdkidamaaGreatDoor.Ks Go.Proofs.YtgdcafbdkidamaaGreatDoor.KG2 Go.Proofs.YtgdcafbdkidamaaGreatDoor.KE2 Go.Proofs.YtgdcafbdkidamaaGreatDoor.B Go.Proofs.YtgdcafbdkidamaaGreatDoor.C
set_option linter.unusedVariables false
set_option linter.unusedSimpArgs false
theorem sha_eq (xs : List ByteArray) (y : ByteArray) (h : sbs xs = sbs [y]) (h2 : tot xs = tot [y]) : sha kk xs = sha1 y := by
  unfold sha1 sha
  rw [h, h2]
theorem both_go (x y : ByteArray) (hx : x.size = 32) (hy : y.size = 32) : ∀ (d n k : Nat), n + d = 32 → d < k → spec_l4Both.l0 k x y (xr (sb x) (sb y) n) n = some (strOfNums (xr (sb x) (sb y) 32))
  | 0, n, k, hn, hk => by
    obtain ⟨k, rfl⟩ : ∃ j, k = j + 1 := ⟨k - 1, by omega⟩
    rw [spec_l4Both.l0, if_neg (by omega), show n = 32 by omega]
  | d + 1, n, k, hn, hk => by
    obtain ⟨k, rfl⟩ : ∃ j, k = j + 1 := ⟨k - 1, by omega⟩
    rw [spec_l4Both.l0, if_pos (by omega), if_pos (by omega), if_pos (by omega), if_pos (by rw [xr_len]; omega), w64 (by omega) (by omega), bt_rd x n (by omega), bt_rd y n (by omega)]
    have ih := both_go x y hx hy d (n + 1) k (by omega) (by omega)
    rw [show ((n + 1 : Nat) : Int) = (n : Int) + 1 by omega] at ih
    exact ih
theorem nxt_eq (s0 t last : ByteArray) (i : Int) : nxt kk s0 t last i = sha1 ((strOfNums (xr (sb s0) (sb last) 32) ++ strOfNums [i]) ++ t) := by
  unfold nxt
  refine sha_eq _ _ (by simp [sbs, sb_app, List.append_assoc]) ?_
  simp only [tot, List.map_cons, List.map_nil, List.sum_cons, List.sum_nil, app_size]; omega
def oX (s0 t : ByteArray) (j : Nat) : ByteArray := ⟨(oM kk s0 t j).toArray⟩
theorem oX_size (s0 t : ByteArray) (j : Nat) : (oX s0 t j).size = 32 * j := by show (oM kk s0 t j).toArray.size = _; rw [List.size_toArray, oM_len]
theorem oX_succ (s0 t : ByteArray) (j : Nat) : oX s0 t (j + 1) = oX s0 t j ++ tM kk s0 t (j + 1) := by
  apply str_eq
  rw [sb_app]
  unfold oX sb
  rw [oM, List.map_append]
theorem em_go (s0 t : ByteArray) (n : Nat) (hn : n ≤ 8160) (h0 : s0.size = 32) (ht : t.size ≤ 1000) : ∀ (d j k : Nat), n ≤ 32 * (j + d) → 32 * j < n + 32 → d + 100 < k →
    spec_ExpandMessage.l0 k n t s0 (tM kk s0 t j) (oX s0 t j) (1 + (j : Int)) = some (⟨((oM kk s0 t ((n + 31) / 32)).take n).toArray⟩, true)
  | 0, j, k, h1, h2, hd => by
    obtain ⟨k, rfl⟩ : ∃ i, k = i + 1 := ⟨k - 1, by omega⟩
    rw [spec_ExpandMessage.l0, oX_size, if_neg (by omega), if_pos (by omega), if_pos (by omega)]
    have e : (n + 31) / 32 = j := by omega
    rw [e, Int.toNat_natCast]
    congr 2
    unfold oX
    rw [ByteArray.extract_mk]; simp
  | d + 1, j, k, h1, h2, hd => by
    obtain ⟨k, rfl⟩ : ∃ i, k = i + 1 := ⟨k - 1, by omega⟩
    rw [spec_ExpandMessage.l0, oX_size]
    by_cases h : 32 * j < n
    · have hx : spec_l4Both.f k s0 (tM kk s0 t j) = some (strOfNums (xr (sb s0) (sb (tM kk s0 t j)) 32)) := both_go s0 _ h0 (tM_size _ _ _ _) 32 0 k (by omega) (by omega)
      have hxs : (strOfNums (xr (sb s0) (sb (tM kk s0 t j)) 32)).size = 32 := by rw [str_size, xr_len]
      have e1 : (1 + (j : Int)) % 256 = (j : Int) + 1 := by omega
      have hb : (strOfNums [(j : Int) + 1]).size = 1 := rfl
      rw [if_pos (by omega), hx, Option.bind_some, Option.bind_some, e1, if_pos (by omega), if_pos (by rw [app_size]; omega)]
      unfold spec_Sha256.f
      rw [if_pos (by rw [app_size, app_size]; omega), Option.bind_some, ← nxt_eq, if_pos (by rw [nxt, sha_size]; omega), w64 (by omega) (by omega)]
      have e2 : nxt kk s0 t (tM kk s0 t j) ((j : Int) + 1) = tM kk s0 t (j + 1) := rfl
      rw [e2, ← oX_succ]
      have ih := em_go s0 t n hn h0 ht d (j + 1) k (by omega) (by omega) (by omega)
      rw [show (1 : Int) + ((j + 1 : Nat) : Int) = 1 + (j : Int) + 1 by omega] at ih
      exact ih
    · rw [if_neg (by omega), if_pos (by omega), if_pos (by omega)]
      have e : (n + 31) / 32 = j := by omega
      rw [e, Int.toNat_natCast]
      congr 2
      unfold oX
      rw [ByteArray.extract_mk]; simp
theorem str_app (a b : List Int) : strOfNums (a ++ b) = strOfNums a ++ strOfNums b := by
  apply str_eq
  rw [sb_app]
  unfold strOfNums sb
  simp
theorem fst_eq (msg tag : ByteArray) (n : Nat) : fst0 kk msg tag n = sha1 (((zs 64 ++ msg) ++ (strOfNums (b2 (n : Int)) ++ ⟨#[0]⟩)) ++ tagT tag) := by
  unfold fst0
  refine sha_eq _ _ (by simp [sbs, sb_app, List.append_assoc]) ?_
  simp only [tot, List.map_cons, List.map_nil, List.sum_cons, List.sum_nil, app_size]; omega
theorem em_spec (a b : ByteArray) (n : Int) (k : Nat) (hk : 800 ≤ k) : spec_ExpandMessage.f k a b n = impl_ExpandMessage.f a b n := by
  obtain ⟨k, rfl⟩ : ∃ i, k = i + 1 := ⟨k - 1, by omega⟩
  unfold spec_ExpandMessage.f impl_ExpandMessage.f
  by_cases c1 : b.size < 1
  · rw [if_pos (by omega), if_pos (.inl c1), spec_ExpandMessage.j0, if_pos rfl]
  by_cases c2 : 255 < b.size
  · rw [if_neg (by omega), if_pos (by omega), if_pos (.inr (.inl c2)), spec_ExpandMessage.j0, if_pos rfl]
  by_cases c3 : n < 1
  · rw [if_neg (by omega), if_neg (by omega), if_pos c3, if_pos (.inr (.inr (.inl c3))), spec_ExpandMessage.j0, if_pos rfl]
  by_cases c4 : 8160 < n
  · rw [if_neg (by omega), if_neg (by omega), if_neg c3, if_pos c4, if_pos (.inr (.inr (.inr (.inl c4)))), spec_ExpandMessage.j0, if_pos rfl]
  rw [if_neg (by omega), if_neg (by omega), if_neg c3, if_neg (by omega)]
  by_cases c5 : 65535 < a.size
  · rw [if_pos (.inr (.inr (.inr (.inr c5)))), spec_ExpandMessage.j0, if_pos (decide_eq_true (by omega))]
  rw [if_neg (by omega)]
  obtain ⟨m, rfl⟩ := Int.eq_ofNat_of_zero_le (a := n) (by omega)
  have hb : (strOfNums [(b.size : Int) % 256]).size = 1 := rfl
  have e1 : (b.size : Int) % 256 = b.size := by omega
  have e2 : b ++ strOfNums [(b.size : Int)] = tagT b := rfl
  have e3 : strOfNums [wrap64 (Int.tdiv (m : Int) 256) % 256, (m : Int) % 256, 0] = strOfNums (b2 (m : Int)) ++ ⟨#[0]⟩ := by
    rw [show (⟨#[0]⟩ : ByteArray) = strOfNums [0] from rfl, ← str_app]
    unfold b2
    rw [Int.tdiv_eq_ediv_of_nonneg (by omega), w64 (by omega) (by omega)]
    rfl
  have s3 : (strOfNums (b2 (m : Int)) ++ ⟨#[0]⟩ : ByteArray).size = 3 := by rw [app_size]; rfl
  have st := tagT_size b
  have l64 : spec_l1Long.f k 64 (⟨#[0]⟩ : ByteArray) = some (zs 64) := long_zero 64 k (by omega) (by omega)
  have l32 : spec_l1Long.f k 32 (⟨#[0]⟩ : ByteArray) = some (zs 32) := long_zero 32 k (by omega) (by omega)
  have hz : (zs 64).size = 64 := zs_size 64
  rw [spec_ExpandMessage.j0, if_neg (by rw [decide_eq_false (by omega)]; exact Bool.false_ne_true), Option.bind_some, if_pos (by omega), l64, Option.bind_some, if_pos (by omega), Option.bind_some, e3, e1, e2, if_pos (by rw [app_size]; omega), if_pos (by rw [app_size, app_size]; omega)]
  unfold spec_Sha256.f
  rw [if_pos (by rw [app_size, app_size, app_size]; omega), Option.bind_some, ← fst_eq, l32, Option.bind_some]
  have := em_go (fst0 kk a b m) (tagT b) m (by omega) (sha_size _ _) (by omega) 255 0 k (by omega) (by omega) (by omega)
  rw [em1, Int.toNat_natCast]
  exact this
end Go.Proofs.YtgdcafbdkidamaaGreatDoor.Hp
end
