/- What the proof of FnKeys leans on, part 41: cut out of the texts of this claim's making by a program (wip/tools/pack.py). -/
import Derived.Test.YtgdcafbdkidamaaGreatDoorKKeys8
import Derived.Test.YtgdcafbdkidamaaGreatDoorKKeys10
import Derived.Test.YtgdcafbdkidamaaGreatDoorKKeys11
import Derived.Test.YtgdcafbdkidamaaGreatDoorKKeys12
import Derived.Test.YtgdcafbdkidamaaGreatDoorKKeys13
import Derived.Test.YtgdcafbdkidamaaGreatDoorKKeys24
import Derived.Test.YtgdcafbdkidamaaGreatDoorKKeys36
import Derived.Test.YtgdcafbdkidamaaGreatDoorKKeys38
import Derived.Test.YtgdcafbdkidamaaGreatDoorKKeys39
import Derived.Test.YtgdcafbdkidamaaGreatDoorKKeys40
import Derived.Lib.Zigzag
section
namespace Go.Proofs.YtgdcafbdkidamaaGreatDoor.Pure
open Go.RowKit Go.Proofs.YtgdcafbdkidamaaGreatDoor.B Go.Proofs.YtgdcafbdkidamaaGreatDoor.H0 Go.Proofs.YtgdcafbdkidamaaGreatDoorW.PrintWords Go.Proofs.YtgdcafbdkidamaaGreatDoorW.PrintLast Go.Proofs.YtgdcafbdkidamaaGreatDoorW.PrintMore
open EC Fp Grp Vi
set_option linter.unusedVariables false
set_option linter.unusedSimpArgs false
namespace Draw
theorem drawScalar (l : List Int) (hl : l.length ≤ 1048576) {p : Int} (hp0 : 0 ≤ p) (hp : p ≤ 900000000) {k : Nat} (hk : 1002 ≤ k) :
    ∃ v q, spec_l2DrawScalar.f k l p = some (v, q) ∧ 0 ≤ v ∧ v < 18446744073709551616 ∧ p ≤ q ∧ q ≤ p + 1002 := by
  unfold spec_l2DrawScalar.f
  obtain ⟨v, q, e, v0, v1, q0, q1⟩ := drawWord l hl hp0 hp hk
  rw [e]
  exact ⟨_, q, rfl, (u64_range _).1, (u64_range _).2, q0, q1⟩
theorem base_enc : (1, 509478702933351334, false) = enc base := by decide +kernel
/-- a drawn point is of the curve -/
theorem drawPoint (l : List Int) (hl : l.length ≤ 1048576) {p : Int} (hp0 : 0 ≤ p) (hp : p ≤ 800000000) {k : Nat} (hk : 1002 ≤ k) :
    ∃ (z : Pt) (q : Int), Kd z ∧ spec_l3DrawPoint.f k l p = some ((enc z).1, (enc z).2.1, (enc z).2.2, q) ∧ p ≤ q ∧ q ≤ p + 1003 := by
  unfold spec_l3DrawPoint.f
  obtain ⟨h, _, _, e1⟩ := take l (p := p) (n := 16) hl hp0 (by omega) (by omega) (k := k) (by omega)
  rw [e1, Option.bind_some]
  obtain ⟨v, q, e2, v0, v1, q0, q1⟩ := drawScalar l hl (p := p + 1) (by omega) (by omega) hk
  rw [e2, Option.bind_some]
  have tb : ∀ e : Int, 0 ≤ e → e < 18446744073709551616 → spec_Times.f k e 1 509478702933351334 false = some (enc (sm' e.toNat base)) := by
    intro e h0 h1
    have := times_spec base cv_base e h0 h1 (k := k) (by omega)
    rw [← base_enc] at this
    exact this
  by_cases c : h = 0
  · rw [if_pos c]
    exact ⟨.zero, q, kd_zero, rfl, by omega, by omega⟩
  · rw [if_neg c]
    unfold spec_Base.f
    by_cases c2 : h < 6
    · rw [if_pos c2, Option.bind_some]
      have m0 := tmod_nonneg v0 (show (1 : Int) ≤ 20 by decide)
      have m1 := (tmod_range v (show (1 : Int) ≤ 20 by decide)).2
      rw [tb _ m0 (by omega), Option.bind_some]
      exact ⟨_, q, kd_sm kd_base _, rfl, by omega, by omega⟩
    · rw [if_neg c2, Option.bind_some, tb _ v0 v1, Option.bind_some]
      exact ⟨_, q, kd_sm kd_base _, rfl, by omega, by omega⟩
theorem enc_range (p : Pt) : (0 ≤ (enc p).1 ∧ (enc p).1 < 18446744073709551616) ∧ (0 ≤ (enc p).2.1 ∧ (enc p).2.1 < 18446744073709551616) := by
  cases p
  · exact ⟨by decide, by decide⟩
  · exact ⟨vi_u _, vi_u _⟩
/-- a drawn point, perhaps spoilt: if it is of the curve, N kills it -/
structure AnyP (x y : Int) (i : Bool) : Prop where
  x0 : 0 ≤ x
  x1 : x < 18446744073709551616
  y0 : 0 ≤ y
  y1 : y < 18446744073709551616
  kd : oc x y i = true → ∃ z : Pt, Kd z ∧ (x, y, i) = enc z
theorem any_enc {z : Pt} (h : Kd z) : AnyP (enc z).1 (enc z).2.1 (enc z).2.2 := ⟨(enc_range z).1.1, (enc_range z).1.2, (enc_range z).2.1, (enc_range z).2.2, fun _ => ⟨z, h, rfl⟩⟩
theorem drawAny (l : List Int) (hl : l.length ≤ 1048576) {p : Int} (hp0 : 0 ≤ p) (hp : p ≤ 700000000) {k : Nat} (hk : 1002 ≤ k) :
    ∃ x y i q, spec_l3AnyPoint.f k l p = some (x, y, i, q) ∧ AnyP x y i ∧ p ≤ q ∧ q ≤ p + 2000 := by
  unfold spec_l3AnyPoint.f
  obtain ⟨h, _, _, e1⟩ := take l (p := p) (n := 20) hl hp0 (by omega) (by omega) (k := k) (by omega)
  rw [e1, Option.bind_some]
  obtain ⟨z, q, hz, e2, q0, q1⟩ := drawPoint l hl (p := p + 1) (by omega) (by omega) hk
  rw [e2, Option.bind_some]
  have hr := enc_range z
  by_cases c1 : h = 18
  · rw [if_pos c1]
    refine ⟨_, _, _, q, rfl, ⟨hr.1.1, hr.1.2, (u64_range _).1, (u64_range _).2, fun ho => ?_⟩, by omega, by omega⟩
    dsimp only at ho ⊢
    cases z with
    | zero => rw [show (enc Pt.zero).2.2 = true from rfl, oc_t, decide_eq_true_eq] at ho; exact absurd ho.2 (by decide)
    | aff X Y =>
      have hy := vi_range Y
      have ey : IntKind.u64.wrap ((enc (.aff X Y)).2.1 + 1) = vi Y + 1 := by show IntKind.u64.wrap (vi Y + 1) = _; rw [u64_eq]; omega
      simp only [ey] at ho ⊢
      obtain ⟨p', cp, ep⟩ := oc_pt (vi_range X).1 (by omega) ho
      refine ⟨p', ?_, ep⟩
      cases p' with
      | zero => exact absurd (congrArg (fun t => t.2.2) ep) (by simp [enc])
      | aff X' Y' =>
        have e3 : X = X' := vi_inj (congrArg (fun t => t.1) ep)
        have e4 : vi Y + 1 = vi Y' := congrArg (fun t => t.2.1) ep
        subst e3
        rcases same_or_opp hz.1 cp with e | e
        · rw [e] at e4; omega
        · have : Y' = -Y := by rw [show Y' = (Y + Y') - Y by grobner, e]; grobner
          rw [this]; exact kd_neg hz
  · rw [if_neg c1]
    by_cases c3 : h = 19
    · rw [if_pos c3]
      refine ⟨_, _, _, q, rfl, ⟨(u64_range _).1, (u64_range _).2, hr.2.1, hr.2.2, fun ho => ?_⟩, by omega, by omega⟩
      dsimp only at ho
      have hx : (enc z).1 < 2305843009213693951 ∧ 0 ≤ (enc z).1 := by
        cases z
        · exact ⟨by decide, by decide⟩
        · exact ⟨(vi_range _).2, (vi_range _).1⟩
      rw [oc_f, decide_eq_true_eq, u64_eq] at ho
      omega
    · rw [if_neg c3]
      exact ⟨_, _, _, q, rfl, any_enc hz, by omega, by omega⟩
theorem wPick (l : List Int) (a : Int) (h0 : 0 ≤ a) : ∃ v, laws_wPick.f l a = some v := by
  unfold laws_wPick.f
  by_cases c : (l.length : Int) = 0
  · rw [if_pos c]; exact ⟨_, rfl⟩
  · have m0 := tmod_nonneg h0 (show (1 : Int) ≤ l.length by omega)
    have m1 := (tmod_range a (show (1 : Int) ≤ l.length by omega)).2
    rw [if_neg c, if_pos m0, if_pos m1]; exact ⟨_, rfl⟩
theorem wWord_go (l : List Int) (a : Int) (h0 : 0 ≤ a) (h1 : a < 1000000) : ∀ (d j k : Nat) (x : Int), j + d = 8 → d < k → 0 ≤ x → x < 18446744073709551616 → ∃ v, laws_wWord.l0 k l a x j = some v ∧ 0 ≤ v ∧ v < 18446744073709551616
  | 0, j, k, x, hj, hk, x0, x1 => by
    obtain ⟨k, rfl⟩ : ∃ i, k = i + 1 := ⟨k - 1, by omega⟩
    rw [laws_wWord.l0, if_neg (by omega)]; exact ⟨x, rfl, x0, x1⟩
  | d + 1, j, k, x, hj, hk, x0, x1 => by
    obtain ⟨k, rfl⟩ : ∃ i, k = i + 1 := ⟨k - 1, by omega⟩
    obtain ⟨v, ev⟩ := wPick l (wrap64 (a + j)) (by rw [w64 (by omega) (by omega)]; omega)
    rw [laws_wWord.l0, if_pos (by omega), ev, Option.bind_some, w64 (n := (j : Int) + 1) (by omega) (by omega)]
    have ih := wWord_go l a h0 h1 d (j + 1) k (IntKind.u64.wrap ((IntKind.u64.wrap (x * 256)) + (IntKind.u64.wrap v))) (by omega) (by omega) (u64_range _).1 (u64_range _).2
    rw [show ((j + 1 : Nat) : Int) = (j : Int) + 1 by omega] at ih
    exact ih
theorem wKey (l : List Int) (a : Int) (h0 : 0 ≤ a) (h1 : a < 1000000) {k : Nat} (hk : 20 ≤ k) : ∃ v, laws_wKey.f k l a = some v ∧ 1 ≤ v ∧ v < 2305843010818082053 := by
  unfold laws_wKey.f laws_wWord.f
  obtain ⟨v, e, v0, v1⟩ := wWord_go l a h0 h1 8 0 k 0 (by omega) (by omega) (by omega) (by omega)
  rw [show laws_wWord.l0 k l a 0 0 = some v from e, Option.bind_some]
  have m0 := tmod_nonneg v0 (show (1 : Int) ≤ 2305843010818082052 by decide)
  have m1 := (tmod_range v (show (1 : Int) ≤ 2305843010818082052 by decide)).2
  refine ⟨_, rfl, ?_, ?_⟩ <;> rw [u64_eq] <;> omega
end Draw
end Go.Proofs.YtgdcafbdkidamaaGreatDoor.Pure
end
section
namespace Go.Proofs.YtgdcafbdkidamaaGreatDoor.Pure
open Go.RowKit Go.Proofs.YtgdcafbdkidamaaGreatDoor.B Go.Proofs.YtgdcafbdkidamaaGreatDoor.C Go.Proofs.YtgdcafbdkidamaaGreatDoor.H0 Go.Proofs.YtgdcafbdkidamaaGreatDoorW.PrintWords Go.Proofs.YtgdcafbdkidamaaGreatDoorW.PrintLast Go.Proofs.YtgdcafbdkidamaaGreatDoorW.PrintMore
set_option linter.unusedVariables false
set_option linter.unusedSimpArgs false
namespace Draw
theorem takeU (l : List Int) {p n : Int} (hl : l.length ≤ 1048576) (hp0 : 0 ≤ p) (hp : p ≤ 1125899906842624) (hn : 1 ≤ n) : ∃ v, -n < v ∧ v < n ∧ ∀ k, 1 ≤ k → spec_l1Take.f k l p n = some (v, p + 1) := by
  obtain ⟨v, h0, h1, e⟩ := take l (p := p) (n := n) hl hp0 hp hn (k := 1) (by omega)
  exact ⟨v, h0, h1, fun k hk => up (g := fun k => spec_l1Take.f k l p n) (spec_l1Take.mono _ _ _) hk e⟩
theorem bytesU (l : List Int) (hl : l.length ≤ 1048576) {n p : Int} (hn : n ≤ 1000) (hp0 : 0 ≤ p) (hp : p ≤ 1000000000) : ∃ s q, (∀ k, 1002 ≤ k → spec_l1Bytes.f k l p n = some (s, q)) ∧ s.size = n.toNat ∧ p ≤ q ∧ q ≤ p + 1000 := by
  obtain ⟨s, q, e, h⟩ := bytes l hl hn hp0 hp (k := 1002) (by omega)
  exact ⟨s, q, fun k hk => up (g := fun k => spec_l1Bytes.f k l p n) (spec_l1Bytes.mono _ _ _) hk e, h⟩
theorem drawTexts (l : List Int) (hl : l.length ≤ 1048576) : ∃ K m s t q, (∀ k, K ≤ k → spec_l6DrawTexts.f k l 0 = some (m, s, t, q)) ∧ 0 ≤ q ∧ q ≤ 3000 ∧ s.size ≤ 70000 := by
  obtain ⟨a, a0, a1, ea⟩ := takeU l (p := 0) (n := 3) hl (by omega) (by omega) (by omega)
  obtain ⟨b, b0, b1, eb⟩ := takeU l (p := 0 + 1) (n := 24) hl (by omega) (by omega) (by omega)
  obtain ⟨K1, s, q1, e1, hs, p1, p2⟩ := some_ l hl (p := 0 + 1 + 1) (by omega) (by omega)
  obtain ⟨K2, t, q2, e2, ht, p3, p4⟩ := some_ l hl (p := q1) (by omega) (by omega)
  have base : ∀ k, K1 + K2 + 1 ≤ k → spec_l6DrawTexts.f k l 0 = if b = 23 then some (wrap64 (wrap64 (a * 3) - 1), s, t, q2) else if a < 2 then (if b > 0 then some (a, s, ⟨#[]⟩, q2) else some (a, s, t, q2)) else some (a, s, t, q2) := fun k hk => by
    unfold spec_l6DrawTexts.f
    rw [ea k (by omega), Option.bind_some]; dsimp only
    rw [eb k (by omega), Option.bind_some]; dsimp only
    rw [e1 k (by omega), Option.bind_some]; dsimp only
    rw [e2 k (by omega), Option.bind_some]
  by_cases c1 : b = 23
  · exact ⟨K1 + K2 + 1, _, _, _, _, fun k hk => by rw [base k hk, if_pos c1], by omega, by omega, hs⟩
  · by_cases c2 : a < 2
    · by_cases c3 : b > 0
      · exact ⟨K1 + K2 + 1, _, _, _, _, fun k hk => by rw [base k hk, if_neg c1, if_pos c2, if_pos c3], by omega, by omega, hs⟩
      · exact ⟨K1 + K2 + 1, _, _, _, _, fun k hk => by rw [base k hk, if_neg c1, if_pos c2, if_neg c3], by omega, by omega, hs⟩
    · exact ⟨K1 + K2 + 1, _, _, _, _, fun k hk => by rw [base k hk, if_neg c1, if_neg c2], by omega, by omega, hs⟩
theorem drawDK (l : List Int) (hl : l.length ≤ 1048576) : ∃ K m s t, (∀ k, K ≤ k → spec_DrawDeriveKey.f k l = some (m, s, t)) ∧ s.size ≤ 1000 ∧ t.size ≤ 100000 := by
  obtain ⟨K1, m, s, t, q, e1, q0, q1, hs⟩ := drawTexts l hl
  obtain ⟨a, a0, a1, ea⟩ := takeU l (p := q) (n := 20) hl (by omega) (by omega) (by omega)
  obtain ⟨u1, p1, f1, g1, _, _⟩ := bytesU l hl (n := 31) (p := q + 1) (by omega) (by omega) (by omega)
  obtain ⟨u2, p2, f2, g2, _, _⟩ := bytesU l hl (n := 32) (p := q + 1) (by omega) (by omega) (by omega)
  have t1 := tmod_range (q + 1) (show (1 : Int) ≤ 2 by decide)
  have w1 : wrap64 (60000 + Int.tmod (q + 1) 2) = 60000 + Int.tmod (q + 1) 2 := w64 (by omega) (by omega)
  obtain ⟨K2, z, hz, hzz⟩ := long (⟨#[105, 110, 102, 111]⟩ : ByteArray) (by decide) (by decide) (n := 60000 + Int.tmod (q + 1) 2) (by omega) (by omega)
  have base : ∀ k, K1 + K2 + 1003 ≤ k → spec_DrawDeriveKey.f k l = if a = 19 then spec_DrawDeriveKey.j0 k l m s a (q + 1) 31 else spec_DrawDeriveKey.j0 k l m s a (q + 1) 32 := fun k hk => by
    unfold spec_DrawDeriveKey.f
    rw [e1 k (by omega), Option.bind_some]; dsimp only
    rw [ea k (by omega), Option.bind_some]
  have fin : ∀ (n : Int) (u : ByteArray) (p2 : Int), (∀ k, 1002 ≤ k → spec_l1Bytes.f k l (q + 1) n = some (u, p2)) → ∃ K t', (∀ k, K ≤ k → spec_DrawDeriveKey.j0 k l m s a (q + 1) n = some (m, u, t')) ∧ t'.size ≤ 100000 := by
    intro n u p2 f
    by_cases c : a = 18
    · refine ⟨K2 + 1003, z, fun k hk => ?_, by omega⟩
      obtain ⟨k, rfl⟩ : ∃ j, k = j + 1 := ⟨k - 1, by omega⟩
      rw [spec_DrawDeriveKey.j0, f k (by omega), Option.bind_some]; dsimp only
      rw [if_pos c, w1, hz k (by omega), Option.bind_some]
    · refine ⟨1003, s, fun k hk => ?_, by omega⟩
      obtain ⟨k, rfl⟩ : ∃ j, k = j + 1 := ⟨k - 1, by omega⟩
      rw [spec_DrawDeriveKey.j0, f k (by omega), Option.bind_some]; dsimp only
      rw [if_neg c]
  by_cases c : a = 19
  · obtain ⟨K3, t', e, ht⟩ := fin 31 u1 p1 f1
    exact ⟨K1 + K2 + 1003 + K3, m, u1, t', fun k hk => by rw [base k (by omega), if_pos c, e k (by omega)], by omega, ht⟩
  · obtain ⟨K3, t', e, ht⟩ := fin 32 u2 p2 f2
    exact ⟨K1 + K2 + 1003 + K3, m, u2, t', fun k hk => by rw [base k (by omega), if_neg c, e k (by omega)], by omega, ht⟩
theorem drawAgree (l : List Int) (hl : l.length ≤ 1048576) : ∃ K x1 y1 i1 x2 y2 i2 x y i s, (∀ k, K ≤ k → spec_DrawAgree.f k l = some (x1, y1, i1, x2, y2, i2, x, y, i, s)) ∧ AnyP x y i ∧ s.size ≤ 70000 := by
  obtain ⟨x1, y1, i1, p1, e1, _, p10, p11⟩ := drawAny l hl (p := 0) (by omega) (by omega) (k := 1002) (by omega)
  obtain ⟨x2, y2, i2, p2, e2, _, p20, p21⟩ := drawAny l hl (p := p1) (by omega) (by omega) (k := 1002) (by omega)
  obtain ⟨x3, y3, i3, p3, e3, hp, p30, p31⟩ := drawAny l hl (p := p2) (by omega) (by omega) (k := 1002) (by omega)
  obtain ⟨K, s, q, e4, hs, _, _⟩ := some_ l hl (p := p3) (by omega) (by omega)
  have u : ∀ (p : Int) r, spec_l3AnyPoint.f 1002 l p = some r → ∀ k, 1002 ≤ k → spec_l3AnyPoint.f k l p = some r := fun p r e k hk => up (g := fun k => spec_l3AnyPoint.f k l p) (spec_l3AnyPoint.mono _ _) hk e
  refine ⟨K + 1002, x1, y1, i1, x2, y2, i2, x3, y3, i3, s, fun k hk => ?_, hp, hs⟩
  unfold spec_DrawAgree.f
  rw [u _ _ e1 k (by omega), Option.bind_some]; dsimp only
  rw [u _ _ e2 k (by omega), Option.bind_some]; dsimp only
  rw [u _ _ e3 k (by omega), Option.bind_some]; dsimp only
  rw [e4 k (by omega), Option.bind_some]
end Draw
end Go.Proofs.YtgdcafbdkidamaaGreatDoor.Pure
end
