/- What the proof of FnPoints leans on, part 18: cut out of the texts of this claim's making by a program (wip/tools/pack.py). -/
import Derived.Test.YtkefcokmghbmhaaDoorKPoints10
import Derived.Test.YtkefcokmghbmhaaDoorKPoints11
import Derived.Test.YtkefcokmghbmhaaDoorKPoints14
import Derived.Test.YtkefcokmghbmhaaDoorKPoints15
import Derived.Test.YtkefcokmghbmhaaDoorKPoints16
import Derived.Test.YtkefcokmghbmhaaDoorKPoints17
import Derived.Lib.Zigzag
import Derived.OpenShut
section
namespace Go.Proofs.YtkefcokmghbmhaaDoor.Pure
open Go.RowKit Go.Proofs.YtkefcokmghbmhaaDoor.B Go.Proofs.YtkefcokmghbmhaaDoor.H0 Go.Proofs.YtkefcokmghbmhaaDoorW.PrintWords Go.Proofs.YtkefcokmghbmhaaDoorW.PrintLast Go.Proofs.YtkefcokmghbmhaaDoorW.PrintMore
open EC Fp Grp Vi
set_option linter.unusedVariables false
set_option linter.unusedSimpArgs false
namespace Draw
theorem xor_range (a b : Int) (ha0 : 0 ≤ a) (ha : a < 9223372036854775808) (hb0 : 0 ≤ b) (hb : b < 9223372036854775808) : 0 ≤ Go.bits .xor .i64 a b := by
  obtain ⟨x, rfl⟩ := Int.eq_ofNat_of_zero_le ha0
  obtain ⟨y, rfl⟩ := Int.eq_ofNat_of_zero_le hb0
  show 0 ≤ IntKind.i64.wrap ((BitVec.ofInt 64 (x : Int) ^^^ BitVec.ofInt 64 (y : Int)).toNat : Int)
  have hx : (BitVec.ofInt 64 (x : Int)).toNat = x := by
    rw [BitVec.ofInt_natCast, BitVec.toNat_ofNat]; exact Nat.mod_eq_of_lt (by omega)
  have hy : (BitVec.ofInt 64 (y : Int)).toNat = y := by
    rw [BitVec.ofInt_natCast, BitVec.toNat_ofNat]; exact Nat.mod_eq_of_lt (by omega)
  rw [BitVec.toNat_xor, hx, hy]
  have h : x ^^^ y < 2 ^ 63 := Nat.xor_lt_two_pow (by omega) (by omega)
  rw [IntKind.wrap_i64]
  omega

theorem u8_wf {a : Int} (h : (Lit.int .u8 a).wf = true) : 0 ≤ a ∧ a < 256 := by
  have := bounds_u8 h
  omega
theorem rd_range {l : List Int} (hx : ∀ x ∈ l, (Lit.int .u8 x).wf = true) (i : Int) : 0 ≤ rd l i ∧ rd l i < 256 := by
  unfold rd
  rw [List.getD_eq_getElem?_getD]
  by_cases h : i.toNat < l.length
  · rw [List.getElem?_eq_getElem h]
    have := hx _ (List.getElem_mem h)
    have h2 := u8_wf this
    simpa using h2
  · rw [List.getElem?_eq_none (by omega)]; decide

theorem mix (a b p q : Int) (ha0 : 0 ≤ a) (ha : a < 256) (hb0 : 0 ≤ b) (hb : b < 256) (hp0 : 0 ≤ p) (hp : p ≤ 1000000000) (hq0 : 0 ≤ q) (hq : q ≤ p) :
    0 ≤ Go.bits .xor .i64 (wrap64 ((wrap64 ((wrap64 ((wrap64 ((wrap64 a) * 131)) + (wrap64 ((wrap64 b) * 1117)))) + (wrap64 (p * 29)))) + (wrap64 ((wrap64 q) * 53)))) (wrap64 (Int.tdiv (wrap64 ((wrap64 ((wrap64 ((wrap64 ((wrap64 a) * 131)) + (wrap64 ((wrap64 b) * 1117)))) + (wrap64 (p * 29)))) + (wrap64 ((wrap64 q) * 53)))) 64)) := by
  rw [w64 (n := a) (by omega) (by omega), w64 (n := b) (by omega) (by omega), w64 (n := q) (by omega) (by omega), w64 (n := a * 131) (by omega) (by omega), w64 (n := b * 1117) (by omega) (by omega), w64 (n := p * 29) (by omega) (by omega), w64 (n := q * 53) (by omega) (by omega)]
  rw [w64 (n := a * 131 + b * 1117) (by omega) (by omega), w64 (n := a * 131 + b * 1117 + p * 29) (by omega) (by omega), w64 (n := a * 131 + b * 1117 + p * 29 + q * 53) (by omega) (by omega)]
  have h0 : 0 ≤ a * 131 + b * 1117 + p * 29 + q * 53 := by omega
  have h1 : a * 131 + b * 1117 + p * 29 + q * 53 < 9223372036854775808 := by omega
  rw [Int.tdiv_eq_ediv_of_nonneg h0]
  rw [w64 (n := (a * 131 + b * 1117 + p * 29 + q * 53) / 64) (by omega) (by omega)]
  exact xor_range _ _ h0 h1 (by omega) (by omega)

theorem take0 (l : List Int) (hx : ∀ x ∈ l, (Lit.int .u8 x).wf = true) {p n : Int} (hl : l.length ≤ 1048576) (hp0 : 0 ≤ p) (hp : p ≤ 1000000000) (hn : 1 ≤ n) {k : Nat} (hk : 1 ≤ k) :
    ∃ v, 0 ≤ v ∧ v < n ∧ spec_l1Take.f k l p n = some (v, p + 1) := by
  obtain ⟨k, rfl⟩ : ∃ j, k = j + 1 := ⟨k - 1, by omega⟩
  unfold spec_l1Take.f
  rw [if_neg (by omega)]
  have e1 : wrap64 (p + 1) = p + 1 := w64 (by omega) (by omega)
  have e7 : wrap64 (wrap64 (p * 7) + 3) = p * 7 + 3 := by rw [w64 (n := p * 7) (by omega) (by omega), w64 (by omega) (by omega)]
  by_cases hz : (l.length : Int) = 0
  · rw [hz]
    exact ⟨0, by omega, by omega, by simp [spec_l1Take.j0, e1]⟩
  · rw [show ((l.length : Int) == 0) = false by simpa using hz]
    simp only [spec_l1Take.j0, e7, e1]
    rw [if_neg (by decide)]
    have hL : 1 ≤ (l.length : Int) := by omega
    have a0 := tmod_nonneg hp0 hL
    have a1 := (tmod_range p hL).2
    have b0 := tmod_nonneg (show 0 ≤ p * 7 + 3 by omega) hL
    have b1 := (tmod_range (p * 7 + 3) hL).2
    have fin : ∀ x : Int, 0 ≤ x → ∃ v, 0 ≤ v ∧ v < n ∧ some (Int.tmod x n, p + 1) = some (v, p + 1) := fun x h => ⟨_, tmod_nonneg h hn, (tmod_range x hn).2, rfl⟩
    have hn0 : ¬ n = 0 := by omega
    have q0 : 0 ≤ Int.tdiv p (l.length : Int) := Int.tdiv_nonneg hp0 (by omega)
    have q1 : Int.tdiv p (l.length : Int) ≤ p := by
      rw [Int.tdiv_eq_ediv_of_nonneg hp0]; exact Int.ediv_le_self _ hp0
    have big := mix (rd l (Int.tmod p l.length)) (rd l (Int.tmod (p * 7 + 3) l.length)) p (Int.tdiv p l.length) (rd_range hx _).1 (rd_range hx _).2 (rd_range hx _).1 (rd_range hx _).2 hp0 hp q0 q1
    by_cases c1 : p < (l.length : Int)
    · rw [if_pos c1]
      by_cases c2 : n ≤ 256
      · rw [if_pos c2, if_pos hp0, if_neg hn0]
        have := rd_range hx p
        rw [w64 (n := rd l p) (by omega) (by omega)]
        exact fin _ this.1
      · rw [if_neg c2, if_neg hz, if_pos a0, if_pos a1, if_pos b0, if_pos b1, if_neg hn0]; exact fin _ big
    · rw [if_neg c1, if_neg hz, if_pos a0, if_pos a1, if_pos b0, if_pos b1, if_neg hn0]; exact fin _ big

theorem drawScalar (l : List Int) (hl : l.length ≤ 1048576) {p : Int} (hp0 : 0 ≤ p) (hp : p ≤ 900000000) {k : Nat} (hk : 1002 ≤ k) :
    ∃ v q, spec_l2DrawScalar.f k l p = some (v, q) ∧ 0 ≤ v ∧ v < 18446744073709551616 ∧ p ≤ q ∧ q ≤ p + 1002 := by
  unfold spec_l2DrawScalar.f
  obtain ⟨v, q, e, v0, v1, q0, q1⟩ := drawWord l hl hp0 hp hk
  rw [e, Option.bind_some]
  exact ⟨_, _, rfl, (u64_range _).1, (u64_range _).2, q0, q1⟩

theorem base_enc : (1, 509478702933351334, false) = enc base := by decide +kernel

/-- a drawn point is of the curve -/
theorem drawPoint (l : List Int) (hl : l.length ≤ 1048576) {p : Int} (hp0 : 0 ≤ p) (hp : p ≤ 800000000) {k : Nat} (hk : 1002 ≤ k) :
    ∃ (z : Pt) (q : Int), Kd z ∧ spec_l3DrawPoint.f k l p = some ((enc z).1, (enc z).2.1, (enc z).2.2, q) ∧ p ≤ q ∧ q ≤ p + 1003 := by
  unfold spec_l3DrawPoint.f
  obtain ⟨h, _, _, e1⟩ := take l (p := p) (n := 16) hl hp0 (by omega) (by omega) (k := k) (by omega)
  rw [e1, Option.bind_some]
  obtain ⟨v, q, e2, v0, v1, q0, q1⟩ := drawScalar l hl (p := p + 1) (by omega) (by omega) hk
  rw [e2, Option.bind_some]
  have tb : ∀ e : Int, 0 ≤ e → e < 18446744073709551616 → spec_Times.f k e 1 509478702933351334 false = some (enc (sm' e.toNat base)) := by
    intro e h0 h1
    have := times_spec base cv_base e h0 h1 (k := k) (by omega)
    rw [← base_enc] at this
    exact this
  by_cases c : h = 0
  · rw [if_pos c]
    exact ⟨.zero, q, kd_zero, rfl, by omega, by omega⟩
  · rw [if_neg c]
    unfold spec_Base.f
    by_cases c2 : h < 6
    · rw [if_pos c2, Option.bind_some]
      have m0 := tmod_nonneg v0 (show (1 : Int) ≤ 20 by decide)
      have m1 := (tmod_range v (show (1 : Int) ≤ 20 by decide)).2
      rw [tb _ m0 (by omega), Option.bind_some]
      exact ⟨_, q, kd_sm kd_base _, rfl, by omega, by omega⟩
    · rw [if_neg c2, Option.bind_some, tb _ v0 v1, Option.bind_some]
      exact ⟨_, q, kd_sm kd_base _, rfl, by omega, by omega⟩

theorem enc_range (p : Pt) : (0 ≤ (enc p).1 ∧ (enc p).1 < 18446744073709551616) ∧ (0 ≤ (enc p).2.1 ∧ (enc p).2.1 < 18446744073709551616) := by
  cases p
  · exact ⟨by decide, by decide⟩
  · exact ⟨vi_u _, vi_u _⟩

theorem drawOnCurve (l : List Int) (hl : l.length ≤ 1048576) {k : Nat} (hk : 1002 ≤ k) :
    ∃ x y i, spec_DrawOnCurve.f k l = some (x, y, i) ∧ (0 ≤ x ∧ x < 18446744073709551616) ∧ (0 ≤ y ∧ y < 18446744073709551616) := by
  unfold spec_DrawOnCurve.f spec_l3AnyPoint.f
  obtain ⟨h, _, _, e1⟩ := take l (p := 0) (n := 20) hl (by omega) (by omega) (by omega) (k := k) (by omega)
  rw [e1, Option.bind_some]
  obtain ⟨z, q, hz, e2, q0, q1⟩ := drawPoint l hl (p := 0 + 1) (by omega) (by omega) hk
  rw [e2, Option.bind_some]
  have hr := enc_range z
  obtain ⟨g, _, _, e3⟩ := take l (p := q) (n := 20) hl (by omega) (by omega) (by omega) (k := k) (by omega)
  by_cases c1 : h = 18
  · rw [if_pos c1, Option.bind_some, e3, Option.bind_some]
    by_cases c2 : g = 0
    · rw [if_pos c2]; exact ⟨_, _, _, rfl, hr.1, by omega⟩
    · rw [if_neg c2]; exact ⟨_, _, _, rfl, hr.1, u64_range _⟩
  · rw [if_neg c1]
    by_cases c3 : h = 19
    · rw [if_pos c3, Option.bind_some, e3, Option.bind_some]
      by_cases c2 : g = 0
      · rw [if_pos c2]; exact ⟨_, _, _, rfl, u64_range _, by omega⟩
      · rw [if_neg c2]; exact ⟨_, _, _, rfl, u64_range _, hr.2⟩
    · rw [if_neg c3, Option.bind_some, e3, Option.bind_some]
      by_cases c2 : g = 0
      · rw [if_pos c2]; exact ⟨_, _, _, rfl, hr.1, by omega⟩
      · rw [if_neg c2]; exact ⟨_, _, _, rfl, hr.1, hr.2⟩

theorem drawPutPoint (l : List Int) (hl : l.length ≤ 1048576) {k : Nat} (hk : 1002 ≤ k) :
    ∃ x y i, spec_DrawPutPoint.f k l = some (x, y, i) ∧ (0 ≤ x ∧ x < 18446744073709551616) ∧ (0 ≤ y ∧ y < 18446744073709551616) := by
  unfold spec_DrawPutPoint.f
  obtain ⟨x, y, i, e, hx, hy⟩ := drawOnCurve l hl hk
  rw [e, Option.bind_some]
  exact ⟨x, y, i, rfl, hx, hy⟩

theorem drawGetPoint (l : List Int) (hx : ∀ x ∈ l, (Lit.int .u8 x).wf = true) (hl : l.length ≤ 1048576) {k : Nat} (hk : 1002 ≤ k) : ∃ s, spec_DrawGetPoint.f k l = some s := by
  unfold spec_DrawGetPoint.f
  obtain ⟨h, _, _, e1⟩ := take l (p := 0) (n := 10) hl (by omega) (by omega) (by omega) (k := k) (by omega)
  rw [e1, Option.bind_some]
  obtain ⟨z, q, hz, e2, q0, q1⟩ := drawPoint l hl (p := 0 + 1) (by omega) (by omega) hk
  rw [e2, Option.bind_some]
  have hr := enc_range z
  obtain ⟨g, g0, g1, e3⟩ := take0 l hx (p := q) (n := 64) hl (by omega) (by omega) (by omega) (k := k) (by omega)
  rw [e3, Option.bind_some, putPoint_spec _ _ _ hr.1.1 hr.1.2 hr.2.1 hr.2.2 (by omega), Option.bind_some]
  have hs := putWord_size (ptWord (enc z).1 (enc z).2.1 (enc z).2.2)
  generalize putWord (ptWord (enc z).1 (enc z).2.1 (enc z).2.2) = s at *
  have hw := Wd.spec_word s (by omega) (k := k) (by omega)
  by_cases c7 : h = 7
  · rw [if_pos c7, hw, Option.bind_some, spec_putWord _ (by omega), Option.bind_some]
    exact ⟨_, rfl⟩
  · rw [if_neg c7]
    by_cases c8 : h = 8
    · rw [if_pos c8, hw, Option.bind_some, if_pos (u64_range _).1, spec_putWord _ (by omega), Option.bind_some]
      exact ⟨_, rfl⟩
    · rw [if_neg c8]
      by_cases c9 : h = 9
      · have m0 := tmod_nonneg g0 (show (1 : Int) ≤ 8 by decide)
        have m1 := (tmod_range g (show (1 : Int) ≤ 8 by decide)).2
        rw [if_pos c9, if_pos m0, if_pos (show Int.tmod g 8 ≤ (s.size : Int) by omega)]
        exact ⟨_, rfl⟩
      · rw [if_neg c9]; exact ⟨_, rfl⟩
end Draw
end Go.Proofs.YtkefcokmghbmhaaDoor.Pure
end
section
namespace Go.Proofs.YtkefcokmghbmhaaDoor.Pure
open Go.RowKit Go.Proofs.YtkefcokmghbmhaaDoor.B Go.Proofs.YtkefcokmghbmhaaDoor.C Go.Proofs.YtkefcokmghbmhaaDoor.H0 Go.Proofs.YtkefcokmghbmhaaDoorW.PrintWords Go.Proofs.YtkefcokmghbmhaaDoorW.PrintLast Go.Proofs.YtkefcokmghbmhaaDoorW.PrintMore
open EC Fp Grp Vi
set_option linter.unusedVariables false
set_option linter.unusedSimpArgs false
theorem sq_or {r b : Fp} (h : r * r = b * b) : r = b ∨ r = -b := by
  have e : (r - b) * (r + b) = 0 := by grobner
  rcases mul_zero_or e with h | h
  · left; grobner
  · right; grobner

/-- a point of the curve is what its word reads as -/
theorem getP_pt {x y : Int} (hx0 : 0 ≤ x) (hy0 : 0 ≤ y) (h : oc x y false = true) : getP (ptWord x y false) = (x, y, false, true) := by
  have h2 := h
  rw [oc_f, decide_eq_true_eq] at h2
  obtain ⟨hx, hy, hq⟩ := h2
  have hxy : gok x ∧ (y % 2 = 0 → gy x = y) ∧ (y % 2 = 1 → gy x = 2305843009213693951 - y) := by
    obtain ⟨a, rfl⟩ := vi_of hx0 hx
    obtain ⟨b, rfl⟩ := vi_of hy0 hy
    have e1 : rhs (vi a) = vi (b * b) := by rw [← hq, vi_mul]
    have e2 : rhs (vi a) ^ 576460752303423488 % 2305843009213693951 = vi (Swu.rt (b * b)) := by rw [e1]; exact vi_rt _ _ rfl
    unfold gok gy
    rw [e2, vi_mul, Swu.rt_of_sq, e1]
    refine ⟨rfl, ?_⟩
    have hb := vi_range b
    unfold even
    rcases sq_or (Swu.rt_of_sq b) with e | e
    · rw [e]
      by_cases c : vi b % 2 = 1
      · rw [if_pos c]; exact ⟨fun h => by omega, fun _ => rfl⟩
      · rw [if_neg c]; exact ⟨fun _ => rfl, fun h => by omega⟩
    · rw [e, ← vi_neg]
      by_cases z : vi b = 0
      · rw [if_pos z, z]; exact ⟨fun _ => rfl, fun h => by omega⟩
      · rw [if_neg z]
        by_cases c : vi b % 2 = 1
        · rw [if_neg (by omega)]; exact ⟨fun h => by omega, fun _ => rfl⟩
        · rw [if_pos (by omega)]; exact ⟨fun _ => by omega, fun h => by omega⟩
  obtain ⟨hk, k0, k1⟩ := hxy
  have hw : ptWord x y false = x + 4611686018427387904 + 2305843009213693952 * (y % 2) := by unfold ptWord; rw [if_pos ⟨h, rfl⟩]
  rw [hw]
  unfold getP gx
  have hm : (x + 4611686018427387904 + 2305843009213693952 * (y % 2)) % 2305843009213693952 = x := by omega
  rw [hm, if_pos ⟨hx, hk, by omega⟩]
  by_cases c : y % 2 = 0
  · rw [if_pos (by omega), k0 c]
  · have c1 : y % 2 = 1 := by omega
    rw [if_neg (by omega), k1 c1, if_neg (by omega)]
    rw [show (2305843009213693951 : Int) - (2305843009213693951 - y) = y by omega]

theorem getP_zero : getP 0 = (0, 0, true, false) := by
  unfold getP; rw [if_neg (fun e => by have := e.2.2; omega)]

theorem ptWord_range (x y : Int) (i : Bool) (hx0 : 0 ≤ x) (hy0 : 0 ≤ y) : 0 ≤ ptWord x y i ∧ ptWord x y i < 18446744073709551616 := by
  unfold ptWord
  split
  · rename_i h
    have h2 := h.1
    rw [h.2, oc_f, decide_eq_true_eq] at h2
    omega
  · omega

theorem getS_put {w : Int} (h0 : 0 ≤ w) (h : w < 18446744073709551616) : getS (putWord w) = getP w := by
  unfold getS; rw [if_pos (putWord_size w), word_put w h0 h]

/-- what a text reads as is put back as that text -/
theorem put_getS (s : ByteArray) (h : (getS s).2.2.2 = true) : ptWord (getS s).1 (getS s).2.1 (getS s).2.2.1 = Wd.word s ∧ s.size = 8 := by
  unfold getS at *
  by_cases hs : s.size = 8
  · rw [if_pos hs] at h ⊢
    refine ⟨?_, hs⟩
    have hw := Wd.word_range s
    generalize Wd.word s = w at *
    unfold getP at *
    have hg : 0 ≤ gx w ∧ gx w = w % 2305843009213693952 := ⟨by unfold gx; omega, rfl⟩
    by_cases c : gx w < 2305843009213693951 ∧ gok (gx w) ∧ w / 4611686018427387904 = 1
    · rw [if_pos c] at h ⊢
      by_cases b : w / 2305843009213693952 % 2 = 0
      · rw [if_pos b]
        show ptWord (gx w) (gy (gx w)) false = w
        rw [pt_even c.1 c.2.1]; omega
      · rw [if_neg b] at h ⊢
        by_cases z : gy (gx w) = 0
        · rw [if_pos z] at h; exact absurd h (by decide)
        · rw [if_neg z]
          show ptWord (gx w) (2305843009213693951 - gy (gx w)) false = w
          rw [pt_odd c.1 c.2.1 z]; omega
    · rw [if_neg c] at h; exact absurd h (by decide)
  · rw [if_neg hs] at h; exact absurd h (by decide)

theorem getP_range (w : Int) : (0 ≤ (getP w).1 ∧ (getP w).1 < 18446744073709551616) ∧ (0 ≤ (getP w).2.1 ∧ (getP w).2.1 < 18446744073709551616) := by
  have hg : 0 ≤ gx w ∧ gx w < 2305843009213693952 := by unfold gx; omega
  have hy := gy_range (gx w)
  unfold getP
  split
  · split
    · exact ⟨⟨hg.1, by show gx w < _; omega⟩, hy.1, by show gy (gx w) < _; omega⟩
    · split
      · exact ⟨by decide, by decide⟩
      · exact ⟨⟨hg.1, by show gx w < _; omega⟩, by show 0 ≤ 2305843009213693951 - gy (gx w); omega, by show 2305843009213693951 - gy (gx w) < _; omega⟩
  · exact ⟨by decide, by decide⟩
theorem getS_range (s : ByteArray) : (0 ≤ (getS s).1 ∧ (getS s).1 < 18446744073709551616) ∧ (0 ≤ (getS s).2.1 ∧ (getS s).2.1 < 18446744073709551616) := by
  unfold getS; split
  · exact getP_range _
  · exact ⟨by decide, by decide⟩

theorem points_j0 (l : List Int) (hx : ∀ x ∈ l, (Lit.int .u8 x).wf = true) (hl : l.length ≤ 1048576) {k : Nat} (hk : 1003 ≤ k) : laws_FnPoints.j0 k l false = some true := by
  obtain ⟨k, rfl⟩ : ∃ j, k = j + 1 := ⟨k - 1, by omega⟩
  rw [laws_FnPoints.j0, if_neg (by decide)]
  obtain ⟨s, e⟩ := Draw.drawGetPoint l hx hl (k := k) (by omega)
  rw [e, Option.bind_some, getPoint_spec s (by omega), Option.bind_some, getPoint_impl s (by omega), Option.bind_some]
  rw [if_pos (by simp), if_pos (by simp)]
  by_cases h : (getS s).2.2.2 = true
  · have hr := getS_range s
    rw [if_pos h, putPoint_impl _ _ _ hr.1.1 hr.1.2 hr.2.1 hr.2.2 (by omega), Option.bind_some]
    obtain ⟨e1, e2⟩ := put_getS s h
    rw [e1, put_word s e2]; simp
  · rw [if_neg h]

theorem points (l : List Int) (hx : ∀ x ∈ l, (Lit.int .u8 x).wf = true) : ∃ k, laws_FnPoints.f k l = some true := by
  refine ⟨1003, ?_⟩
  unfold laws_FnPoints.f
  by_cases hl : (l.length : Int) > 1048576
  · rw [if_pos hl]
  · rw [if_neg hl]
    obtain ⟨x, y, i, e, h1, h2⟩ := Draw.drawPutPoint l (by omega) (k := 1003) (by omega)
    rw [e, Option.bind_some, putPoint_impl x y i h1.1 h1.2 h2.1 h2.2 (by omega), Option.bind_some, putPoint_spec x y i h1.1 h1.2 h2.1 h2.2 (by omega), Option.bind_some, if_pos rfl]
    have hw := ptWord_range x y i h1.1 h2.1
    rw [getPoint_impl _ (by omega), Option.bind_some, getS_put hw.1 hw.2, onCurve_spec x y i h1.1 h2.1, Option.bind_some]
    have hj := points_j0 l hx (by omega) (k := 1003) (by omega)
    by_cases h : oc x y i = true
    · rw [if_pos h]
      cases i
      · rw [getP_pt h1.1 h2.1 h]
        rw [if_neg (show ¬ (true != !false) = true by decide), if_pos rfl]
        rw [show (!(x == x) || (!(y == y) || !(false == false))) = false by simp]
        exact hj
      · have e0 : ptWord x y true = 0 := by unfold ptWord; rw [if_neg (fun e => by simp at e)]
        rw [e0, getP_zero, if_neg (show ¬ (false != !true) = true by decide), if_neg (by decide)]
        exact hj
    · have e0 : ptWord x y i = 0 := by unfold ptWord; rw [if_neg (fun e => h e.1)]
      rw [if_neg h, e0, getP_zero, if_neg (by decide), if_neg (by decide)]
      exact hj
theorem FnPoints : laws_FnPoints.Pure := fun l _ _ hx => points l hx
end Go.Proofs.YtkefcokmghbmhaaDoor.Pure
end
