/- What the proof of FnGroup leans on, part 27: cut out of the texts of this claim's making by a program (wip/tools/pack.py). -/
import Derived.Test.YtoejhekppfgmpaaDoorKGroup10
import Derived.Test.YtoejhekppfgmpaaDoorKGroup13
import Derived.Test.YtoejhekppfgmpaaDoorKGroup15
import Derived.Test.YtoejhekppfgmpaaDoorKGroup20
import Derived.Test.YtoejhekppfgmpaaDoorKGroup24
import Derived.Test.YtoejhekppfgmpaaDoorKGroup26
import Derived.KernelRfl
import Derived.Lib.Zigzag
import Derived.OpenShut
section
namespace Go.Proofs.YtoejhekppfgmpaaDoor.Pure
open Go.RowKit Go.Proofs.YtoejhekppfgmpaaDoor.B Go.Proofs.YtoejhekppfgmpaaDoor.H0 Go.Proofs.YtoejhekppfgmpaaDoorW.PrintWords Go.Proofs.YtoejhekppfgmpaaDoorW.PrintLast Go.Proofs.YtoejhekppfgmpaaDoorW.PrintMore
open EC Fp Grp Vi
set_option linter.unusedVariables false
set_option linter.unusedSimpArgs false
namespace Draw
theorem drawScalar (l : List Int) (hl : l.length ≤ 1048576) {p : Int} (hp0 : 0 ≤ p) (hp : p ≤ 900000000) {k : Nat} (hk : 1002 ≤ k) :
    ∃ v q, spec_l2DrawScalar.f k l p = some (v, q) ∧ 0 ≤ v ∧ v < 18446744073709551616 ∧ p ≤ q ∧ q ≤ p + 1002 := by
  unfold spec_l2DrawScalar.f
  obtain ⟨v, q, e, v0, v1, q0, q1⟩ := drawWord l hl hp0 hp hk
  rw [e]
  exact ⟨_, q, rfl, (u64_range _).1, (u64_range _).2, q0, q1⟩
theorem base_enc : (1, 509478702933351334, false) = enc base := by decide +kernel
/-- a drawn point is of the curve -/
theorem drawPoint (l : List Int) (hl : l.length ≤ 1048576) {p : Int} (hp0 : 0 ≤ p) (hp : p ≤ 800000000) {k : Nat} (hk : 1002 ≤ k) :
    ∃ (z : Pt) (q : Int), Kd z ∧ spec_l3DrawPoint.f k l p = some ((enc z).1, (enc z).2.1, (enc z).2.2, q) ∧ p ≤ q ∧ q ≤ p + 1003 := by
  unfold spec_l3DrawPoint.f
  obtain ⟨h, _, _, e1⟩ := take l (p := p) (n := 16) hl hp0 (by omega) (by omega) (k := k) (by omega)
  rw [e1, Option.bind_some]
  obtain ⟨v, q, e2, v0, v1, q0, q1⟩ := drawScalar l hl (p := p + 1) (by omega) (by omega) hk
  rw [e2, Option.bind_some]
  have tb : ∀ e : Int, 0 ≤ e → e < 18446744073709551616 → spec_Times.f k e 1 509478702933351334 false = some (enc (sm' e.toNat base)) := by
    intro e h0 h1
    have := times_spec base cv_base e h0 h1 (k := k) (by omega)
    rw [← base_enc] at this
    exact this
  by_cases c : h = 0
  · rw [if_pos c]
    exact ⟨.zero, q, kd_zero, rfl, by omega, by omega⟩
  · rw [if_neg c]
    unfold spec_Base.f
    by_cases c2 : h < 6
    · rw [if_pos c2, Option.bind_some]
      have m0 := tmod_nonneg v0 (show (1 : Int) ≤ 20 by decide)
      have m1 := (tmod_range v (show (1 : Int) ≤ 20 by decide)).2
      rw [tb _ m0 (by omega), Option.bind_some]
      exact ⟨_, q, kd_sm kd_base _, rfl, by omega, by omega⟩
    · rw [if_neg c2, Option.bind_some, tb _ v0 v1, Option.bind_some]
      exact ⟨_, q, kd_sm kd_base _, rfl, by omega, by omega⟩
theorem enc_range (p : Pt) : (0 ≤ (enc p).1 ∧ (enc p).1 < 18446744073709551616) ∧ (0 ≤ (enc p).2.1 ∧ (enc p).2.1 < 18446744073709551616) := by
  cases p
  · exact ⟨by decide, by decide⟩
  · exact ⟨vi_u _, vi_u _⟩
/-- a drawn point, perhaps spoilt: if it is of the curve, N kills it -/
structure AnyP (x y : Int) (i : Bool) : Prop where
  x0 : 0 ≤ x
  x1 : x < 18446744073709551616
  y0 : 0 ≤ y
  y1 : y < 18446744073709551616
  kd : oc x y i = true → ∃ z : Pt, Kd z ∧ (x, y, i) = enc z
theorem any_enc {z : Pt} (h : Kd z) : AnyP (enc z).1 (enc z).2.1 (enc z).2.2 := ⟨(enc_range z).1.1, (enc_range z).1.2, (enc_range z).2.1, (enc_range z).2.2, fun _ => ⟨z, h, rfl⟩⟩
theorem drawAny (l : List Int) (hl : l.length ≤ 1048576) {p : Int} (hp0 : 0 ≤ p) (hp : p ≤ 700000000) {k : Nat} (hk : 1002 ≤ k) :
    ∃ x y i q, spec_l3AnyPoint.f k l p = some (x, y, i, q) ∧ AnyP x y i ∧ p ≤ q ∧ q ≤ p + 2000 := by
  unfold spec_l3AnyPoint.f
  obtain ⟨h, _, _, e1⟩ := take l (p := p) (n := 20) hl hp0 (by omega) (by omega) (k := k) (by omega)
  rw [e1, Option.bind_some]
  obtain ⟨z, q, hz, e2, q0, q1⟩ := drawPoint l hl (p := p + 1) (by omega) (by omega) hk
  rw [e2, Option.bind_some]
  have hr := enc_range z
  by_cases c1 : h = 18
  · rw [if_pos c1]
    refine ⟨_, _, _, q, rfl, ⟨hr.1.1, hr.1.2, (u64_range _).1, (u64_range _).2, fun ho => ?_⟩, by omega, by omega⟩
    dsimp only at ho ⊢
    cases z with
    | zero => rw [show (enc Pt.zero).2.2 = true from rfl, oc_t, decide_eq_true_eq] at ho; exact absurd ho.2 (by decide)
    | aff X Y =>
      have hy := vi_range Y
      have ey : IntKind.u64.wrap ((enc (.aff X Y)).2.1 + 1) = vi Y + 1 := by show IntKind.u64.wrap (vi Y + 1) = _; rw [u64_eq]; omega
      simp only [ey] at ho ⊢
      obtain ⟨p', cp, ep⟩ := oc_pt (vi_range X).1 (by omega) ho
      refine ⟨p', ?_, ep⟩
      cases p' with
      | zero => exact absurd (congrArg (fun t => t.2.2) ep) (by simp [enc])
      | aff X' Y' =>
        have e3 : X = X' := vi_inj (congrArg (fun t => t.1) ep)
        have e4 : vi Y + 1 = vi Y' := congrArg (fun t => t.2.1) ep
        subst e3
        rcases same_or_opp hz.1 cp with e | e
        · rw [e] at e4; omega
        · have : Y' = -Y := by rw [show Y' = (Y + Y') - Y by grobner, e]; grobner
          rw [this]; exact kd_neg hz
  · rw [if_neg c1]
    by_cases c3 : h = 19
    · rw [if_pos c3]
      refine ⟨_, _, _, q, rfl, ⟨(u64_range _).1, (u64_range _).2, hr.2.1, hr.2.2, fun ho => ?_⟩, by omega, by omega⟩
      dsimp only at ho
      have hx : (enc z).1 < 2305843009213693951 ∧ 0 ≤ (enc z).1 := by
        cases z
        · exact ⟨by decide, by decide⟩
        · exact ⟨(vi_range _).2, (vi_range _).1⟩
      rw [oc_f, decide_eq_true_eq, u64_eq] at ho
      omega
    · rw [if_neg c3]
      exact ⟨_, _, _, q, rfl, any_enc hz, by omega, by omega⟩
theorem drawTimes (l : List Int) (hl : l.length ≤ 1048576) {k : Nat} (hk : 1002 ≤ k) :
    ∃ e x y i, spec_DrawTimes.f k l = some (e, x, y, i) ∧ 0 ≤ e ∧ e < 18446744073709551616 ∧ AnyP x y i := by
  unfold spec_DrawTimes.f
  obtain ⟨v, q, e1, v0, v1, q0, q1⟩ := drawWord l hl (p := 0) (by omega) (by omega) hk
  rw [e1, Option.bind_some]
  obtain ⟨x, y, i, q', e2, hp, _, _⟩ := drawAny l hl (p := q) (by omega) (by omega) hk
  rw [e2, Option.bind_some]
  exact ⟨_, _, _, _, rfl, v0, v1, hp⟩
theorem drawAdd (l : List Int) (hl : l.length ≤ 1048576) {k : Nat} (hk : 1002 ≤ k) :
    ∃ x y i x' y' i', spec_DrawAdd.f k l = some (x, y, i, x', y', i') ∧ AnyP x y i ∧ AnyP x' y' i' := by
  unfold spec_DrawAdd.f
  obtain ⟨h, _, _, e0⟩ := take l (p := 0) (n := 6) hl (by omega) (by omega) (by omega) (k := k) (by omega)
  rw [e0, Option.bind_some]
  obtain ⟨x, y, i, q, e1, hp, q0, q1⟩ := drawAny l hl (p := 0 + 1) (by omega) (by omega) hk
  rw [e1, Option.bind_some]
  obtain ⟨x', y', i', q', e2, hp', q0', q1'⟩ := drawAny l hl (p := q) (by omega) (by omega) hk
  rw [e2, Option.bind_some]
  by_cases c : h = 0
  · rw [if_pos c]; exact ⟨_, _, _, _, _, _, rfl, hp, hp⟩
  · rw [if_neg c]
    by_cases c1 : h = 1
    · rw [if_pos c1]
      unfold spec_Negative.f
      rw [onCurve_spec x y i hp.x0 hp.y0, Option.bind_some]
      by_cases ho : oc x y i = true
      · obtain ⟨z, hz, ez⟩ := hp.kd ho
        rw [if_pos ho]
        cases z with
        | zero =>
          have ei : i = true := congrArg (fun t => t.2.2) ez
          rw [if_pos ei]
          exact ⟨_, _, _, _, _, _, rfl, hp, any_enc kd_zero⟩
        | aff X Y =>
          have ei : i = false := congrArg (fun t => t.2.2) ez
          have ex : x = vi X := congrArg (fun t => t.1) ez
          have ey : y = vi Y := congrArg (fun t => t.2.1) ez
          have hy := vi_range Y
          rw [if_neg (show ¬ i = true by rw [ei]; decide)]
          refine ⟨_, _, _, _, _, _, rfl, hp, ?_⟩
          have e5 : Int.tmod (IntKind.u64.wrap (2305843009213693951 - y)) 2305843009213693951 = vi (-Y) := by
            rw [ey, wu (by omega) (by omega), Int.tmod_eq_emod_of_nonneg (by omega), vi_neg']
          dsimp only
          rw [e5, ex]
          exact any_enc (kd_neg hz)
      · rw [if_neg ho]
        exact ⟨_, _, _, _, _, _, rfl, hp, any_enc kd_zero⟩
    · rw [if_neg c1]; exact ⟨_, _, _, _, _, _, rfl, hp, hp'⟩
theorem wPick (l : List Int) (a : Int) (h0 : 0 ≤ a) : ∃ v, laws_wPick.f l a = some v := by
  unfold laws_wPick.f
  by_cases c : (l.length : Int) = 0
  · rw [if_pos c]; exact ⟨_, rfl⟩
  · have m0 := tmod_nonneg h0 (show (1 : Int) ≤ l.length by omega)
    have m1 := (tmod_range a (show (1 : Int) ≤ l.length by omega)).2
    rw [if_neg c, if_pos m0, if_pos m1]; exact ⟨_, rfl⟩
theorem wWord_go (l : List Int) (a : Int) (h0 : 0 ≤ a) (h1 : a < 1000000) : ∀ (d j k : Nat) (x : Int), j + d = 8 → d < k → 0 ≤ x → x < 18446744073709551616 → ∃ v, laws_wWord.l0 k l a x j = some v ∧ 0 ≤ v ∧ v < 18446744073709551616
  | 0, j, k, x, hj, hk, x0, x1 => by
    obtain ⟨k, rfl⟩ : ∃ i, k = i + 1 := ⟨k - 1, by omega⟩
    rw [laws_wWord.l0, if_neg (by omega)]; exact ⟨x, rfl, x0, x1⟩
  | d + 1, j, k, x, hj, hk, x0, x1 => by
    obtain ⟨k, rfl⟩ : ∃ i, k = i + 1 := ⟨k - 1, by omega⟩
    obtain ⟨v, ev⟩ := wPick l (wrap64 (a + j)) (by rw [w64 (by omega) (by omega)]; omega)
    rw [laws_wWord.l0, if_pos (by omega), ev, Option.bind_some, w64 (n := (j : Int) + 1) (by omega) (by omega)]
    have ih := wWord_go l a h0 h1 d (j + 1) k (IntKind.u64.wrap ((IntKind.u64.wrap (x * 256)) + (IntKind.u64.wrap v))) (by omega) (by omega) (u64_range _).1 (u64_range _).2
    rw [show ((j + 1 : Nat) : Int) = (j : Int) + 1 by omega] at ih
    exact ih
theorem wKey (l : List Int) (a : Int) (h0 : 0 ≤ a) (h1 : a < 1000000) {k : Nat} (hk : 20 ≤ k) : ∃ v, laws_wKey.f k l a = some v ∧ 1 ≤ v ∧ v < 2305843010818082053 := by
  unfold laws_wKey.f laws_wWord.f
  obtain ⟨v, e, v0, v1⟩ := wWord_go l a h0 h1 8 0 k 0 (by omega) (by omega) (by omega) (by omega)
  rw [show laws_wWord.l0 k l a 0 0 = some v from e, Option.bind_some]
  have m0 := tmod_nonneg v0 (show (1 : Int) ≤ 2305843010818082052 by decide)
  have m1 := (tmod_range v (show (1 : Int) ≤ 2305843010818082052 by decide)).2
  refine ⟨_, rfl, ?_, ?_⟩ <;> rw [u64_eq] <;> omega
end Draw
end Go.Proofs.YtoejhekppfgmpaaDoor.Pure
end
section
namespace Go.Proofs.YtoejhekppfgmpaaDoor.VaGroup
open Go Go.RowKit Go.Proofs.YtoejhekppfgmpaaDoorW.PrintWords Go.Proofs.YtoejhekppfgmpaaDoorW.PrintLast Go.Proofs.YtoejhekppfgmpaaDoorW.PrintMore Go.Proofs.YtoejhekppfgmpaaDoor.Ve Go.Proofs.YtoejhekppfgmpaaDoor.VeT Go.Proofs.YtoejhekppfgmpaaDoor.VeE Go.Proofs.YtoejhekppfgmpaaDoor.G1 Go.Proofs.YtoejhekppfgmpaaDoor.B Go.Proofs.YtoejhekppfgmpaaDoor.C Go.Proofs.YtoejhekppfgmpaaDoor.Pure Go.Proofs.YtoejhekppfgmpaaDoor.F
open EC Fp Grp Vi
set_option linter.unusedVariables false
set_option linter.unusedSimpArgs false
theorem add_any (x1 y1 : Int) (i1 : Bool) (x2 y2 : Int) (i2 : Bool) (h1 : Draw.AnyP x1 y1 i1) (h2 : Draw.AnyP x2 y2 i2) :
    ∃ u v i, spec_Add.f 200 x1 y1 i1 x2 y2 i2 = some (u, v, i) ∧ impl_Add.f 200 x1 y1 i1 x2 y2 i2 = some (u, v, i) := by
  by_cases h : (oc x1 y1 i1 && oc x2 y2 i2) = true
  · rw [Bool.and_eq_true] at h
    obtain ⟨p, hp, ep⟩ := oc_pt h1.x0 h1.y0 h.1
    obtain ⟨q, hq, eq⟩ := oc_pt h2.x0 h2.y0 h.2
    have e1 := add_spec p q hp hq (k := 200) (by omega)
    have e2 := add_impl p q hp hq (k := 200) (by omega)
    rw [← ep, ← eq] at e1 e2
    exact ⟨_, _, _, e1, e2⟩
  · have h' : (oc x1 y1 i1 && oc x2 y2 i2) = false := by simpa using h
    exact ⟨_, _, _, add_spec_no x1 y1 i1 x2 y2 i2 h1.x0 h1.y0 h2.x0 h2.y0 h' (by omega), add_impl_no x1 y1 i1 x2 y2 i2 ⟨h1.x0, h1.x1⟩ ⟨h1.y0, h1.y1⟩ ⟨h2.x0, h2.x1⟩ ⟨h2.y0, h2.y1⟩ h' (by omega)⟩
theorem times_any (e x y : Int) (i : Bool) (h0 : 0 ≤ e ∧ e < 18446744073709551616) (h1 : Draw.AnyP x y i) :
    ∃ u v j, spec_Times.f 300 e x y i = some (u, v, j) ∧ impl_Times.f 300 e x y i = some (u, v, j) := by
  by_cases h : oc x y i = true
  · obtain ⟨p, hp, ep⟩ := oc_pt h1.x0 h1.y0 h
    have e1 := times_spec p hp e h0.1 h0.2 (k := 300) (by omega)
    have e2 := times_impl p hp e h0.1 h0.2 (k := 300) (by omega)
    rw [← ep] at e1 e2
    exact ⟨_, _, _, e1, e2⟩
  · have h' : oc x y i = false := by simpa using h
    exact ⟨_, _, _, times_spec_no e x y i h1.x0 h1.y0 h', times_impl_no e x y i ⟨h1.x0, h1.x1⟩ ⟨h1.y0, h1.y1⟩ h' (by omega)⟩
theorem neg_enc (p : Pt) (hp : Cv p) : impl_Negative.f 200 (enc p).1 (enc p).2.1 (enc p).2.2 = some (enc (neg p)) := by
  cases p with
  | zero =>
    unfold impl_Negative.f
    rw [Oc.onCurve_enc .zero hp (by omega), Option.bind_some, if_pos rfl, if_pos (by rfl)]; rfl
  | aff x y => exact Oc.negative_aff x y hp (by omega)
theorem pl_neg {p : Pt} : pl p (neg p) = .zero := by
  cases p with
  | zero => rfl
  | aff x y => exact add_opp (by grobner)
/-- what is wanted of three points of the curve and two numbers -/
theorem laws_on (A B C : Pt) (ha : Kd A) (hb : Kd B) (hc : Kd C) (kk j : Int) (k0 : 0 ≤ kk) (k1 : kk < 18446744073709551616) (j0 : 1 ≤ j) (j1 : j < 2305843010818082053) :
    ∃ x1 y1 i1 x2 y2 i2 x3 y3 i3 x4 y4 i4 x5 y5 i5 x6 y6 i6 x7 y7 i7 x8 y8 i8 v,
      impl_Add.f 200 (enc A).1 (enc A).2.1 (enc A).2.2 (enc B).1 (enc B).2.1 (enc B).2.2 = some (x1, y1, i1) ∧ spec_Add.f 200 (enc A).1 (enc A).2.1 (enc A).2.2 (enc B).1 (enc B).2.1 (enc B).2.2 = some (x1, y1, i1) ∧
      impl_Add.f 200 (enc B).1 (enc B).2.1 (enc B).2.2 (enc A).1 (enc A).2.1 (enc A).2.2 = some (x1, y1, i1) ∧ impl_Add.f 200 x1 y1 i1 (enc C).1 (enc C).2.1 (enc C).2.2 = some (x2, y2, i2) ∧
      impl_Add.f 200 (enc B).1 (enc B).2.1 (enc B).2.2 (enc C).1 (enc C).2.1 (enc C).2.2 = some (x3, y3, i3) ∧ impl_Add.f 200 (enc A).1 (enc A).2.1 (enc A).2.2 x3 y3 i3 = some (x2, y2, i2) ∧
      impl_Negative.f 200 (enc A).1 (enc A).2.1 (enc A).2.2 = some (x4, y4, i4) ∧ impl_Add.f 200 (enc A).1 (enc A).2.1 (enc A).2.2 x4 y4 i4 = some (0, 0, true) ∧
      impl_Times.f 300 (Int.tmod kk 2305843010818082053) (enc C).1 (enc C).2.1 (enc C).2.2 = some (x5, y5, i5) ∧ spec_Times.f 300 (Int.tmod kk 2305843010818082053) (enc C).1 (enc C).2.1 (enc C).2.2 = some (x5, y5, i5) ∧
      impl_Times.f 300 j x5 y5 i5 = some (x6, y6, i6) ∧ spec_MulMod.f 300 j (Int.tmod kk 2305843010818082053) 2305843010818082053 = some v ∧ impl_Times.f 300 v (enc C).1 (enc C).2.1 (enc C).2.2 = some (x6, y6, i6) ∧
      impl_Times.f 300 j (enc C).1 (enc C).2.1 (enc C).2.2 = some (x7, y7, i7) ∧ impl_Add.f 200 x7 y7 i7 x5 y5 i5 = some (x8, y8, i8) ∧
      (IntKind.u64.wrap (Int.tmod kk 2305843010818082053 + j) < 2305843010818082053 → impl_Times.f 300 (IntKind.u64.wrap (Int.tmod kk 2305843010818082053 + j)) (enc C).1 (enc C).2.1 (enc C).2.2 = some (x8, y8, i8)) ∧
      (¬ IntKind.u64.wrap (Int.tmod kk 2305843010818082053 + j) < 2305843010818082053 → impl_Times.f 300 (IntKind.u64.wrap (IntKind.u64.wrap (Int.tmod kk 2305843010818082053 + j) - 2305843010818082053)) (enc C).1 (enc C).2.1 (enc C).2.2 = some (x8, y8, i8)) ∧
      impl_Times.f 300 2305843010818082053 (enc C).1 (enc C).2.1 (enc C).2.2 = some (0, 0, true) ∧ impl_OnCurve.f 200 x1 y1 i1 = some true ∧ impl_OnCurve.f 200 x5 y5 i5 = some true := by
  have hm : Int.tmod kk 2305843010818082053 = kk % 2305843010818082053 := Int.tmod_eq_emod_of_nonneg k0
  rw [hm]
  have m0 : 0 ≤ kk % 2305843010818082053 := by omega
  have m1 : kk % 2305843010818082053 < 2305843010818082053 := by omega
  generalize kk % 2305843010818082053 = m at *
  have cs : ∀ n, Cv (sm' n C) := cv_sm hc.1
  have ew : IntKind.u64.wrap (m + j) = m + j := by rw [Draw.u64_eq]; omega
  have tI : ∀ e : Int, 0 ≤ e → e < 18446744073709551616 → ∀ P : Pt, Cv P → impl_Times.f 300 e (enc P).1 (enc P).2.1 (enc P).2.2 = some (enc (sm' e.toNat P)) := fun e h0 h1 P hP => times_impl P hP e h0 h1 (by omega)
  have hN : (2305843010818082053 : Int).toNat = Grp.N := rfl
  refine ⟨(enc (pl A B)).1, (enc (pl A B)).2.1, (enc (pl A B)).2.2, (enc (pl (pl A B) C)).1, (enc (pl (pl A B) C)).2.1, (enc (pl (pl A B) C)).2.2, (enc (pl B C)).1, (enc (pl B C)).2.1, (enc (pl B C)).2.2, (enc (neg A)).1, (enc (neg A)).2.1, (enc (neg A)).2.2, (enc (sm' m.toNat C)).1, (enc (sm' m.toNat C)).2.1, (enc (sm' m.toNat C)).2.2, (enc (sm' j.toNat (sm' m.toNat C))).1, (enc (sm' j.toNat (sm' m.toNat C))).2.1, (enc (sm' j.toNat (sm' m.toNat C))).2.2, (enc (sm' j.toNat C)).1, (enc (sm' j.toNat C)).2.1, (enc (sm' j.toNat C)).2.2, (enc (pl (sm' j.toNat C) (sm' m.toNat C))).1, (enc (pl (sm' j.toNat C) (sm' m.toNat C))).2.1, (enc (pl (sm' j.toNat C) (sm' m.toNat C))).2.2, (if (2305843010818082053 : Int) = 0 then 0 else j * m % 2305843010818082053), add_impl A B ha.1 hb.1 (by omega), add_spec A B ha.1 hb.1 (by omega), ?_, add_impl (pl A B) C (cv_pl ha.1 hb.1) hc.1 (by omega),
    add_impl B C hb.1 hc.1 (by omega), ?_, neg_enc A ha.1, ?_, tI m m0 (by omega) C hc.1, times_spec C hc.1 m m0 (by omega) (by omega), tI j (by omega) (by omega) _ (cs _), spec_mulmod j m 2305843010818082053 (by omega) m0 (by omega) (by omega) (by omega), ?_, tI j (by omega) (by omega) C hc.1,
    add_impl _ _ (cs _) (cs _) (by omega), ?_, ?_, ?_, Oc.onCurve_enc _ (cv_pl ha.1 hb.1) (by omega), Oc.onCurve_enc _ (cs _) (by omega)⟩
  · rw [add_impl B A hb.1 ha.1 (by omega), pl_comm hb.1 ha.1]
  · rw [add_impl A (pl B C) ha.1 (cv_pl hb.1 hc.1) (by omega), ← pl_assoc ha.1 hb.1 hc.1]
  · rw [add_impl A (neg A) ha.1 (cv_neg ha.1) (by omega), pl_neg]; rfl
  · rw [if_neg (by decide), tI _ (by omega) (by omega) C hc.1]
    congr 2
    rw [sm_mul hc.1]
    have e : (j * m % 2305843010818082053).toNat = (m.toNat * j.toNat) % Grp.N := by
      obtain ⟨a, rfl⟩ := Int.eq_ofNat_of_zero_le m0
      obtain ⟨b, rfl⟩ := Int.eq_ofNat_of_zero_le (show 0 ≤ j by omega)
      show ((b : Int) * a % ((Grp.N : Nat) : Int)).toNat = _
      rw [Int.toNat_natCast, Int.toNat_natCast, ← Int.natCast_mul, ← Int.natCast_emod, Int.toNat_natCast, Nat.mul_comm]
    rw [e, sm_mod hc]
  · intro hlt
    rw [ew] at hlt ⊢
    rw [tI _ (by omega) (by omega) C hc.1, show (m + j).toNat = j.toNat + m.toNat by omega, sm_add hc.1]
  · intro hge
    rw [ew] at hge ⊢
    have e2 : IntKind.u64.wrap (m + j - 2305843010818082053) = m + j - 2305843010818082053 := by rw [Draw.u64_eq]; omega
    rw [e2, tI _ (by omega) (by omega) C hc.1]
    congr 2
    rw [← sm_add hc.1, ← sm_mod hc (j.toNat + m.toNat), ← sm_mod hc (m + j - 2305843010818082053).toNat]
    congr 1
    have : j.toNat + m.toNat = (m + j - 2305843010818082053).toNat + Grp.N := by rw [← hN]; omega
    rw [this, Nat.add_mod_right]
  · rw [tI _ (by omega) (by omega) C hc.1, hN, hc.2]; rfl
set_option maxRecDepth 100000 in
set_option maxHeartbeats 20000000 in
theorem laws_FnGroup.calls (A0 : Option Addr) (c0 : Nat) (l0 : List Int) (A1 : Option Addr) (c1 : Nat) (l1 : List Int) (w : World) (hG : G w) (hr0 : Kd.C (Kd.int .u8) w A0 l0.length l0) (hc0 : l0.length ≤ c0) (hr1 : Kd.C (Kd.int .u8) w A1 l1.length l1) (hc1 : l1.length ≤ c1) :
    Calls Tryd.prog 3 #[.slice A0 l0.length c0, .slice A1 l1.length c1] w fun e w' => e = .returned (.bool true) ∧ Below w.heap.size w w' := by
  refine ve_fn (args := [.slice A0 l0.length c0, .slice A1 l1.length c1]) Tryd.func3 rfl Tryd.ntmps3 rfl (good (Γ := fun W => G W ∧ Kd.C (Kd.int .u8) W A0 l0.length l0 ∧ Kd.C (Kd.int .u8) W A1 l1.length l1) (fun W hb => ⟨G_below hb hG, Kd.C_below hr0 hb, Kd.C_below hr1 hb⟩)) ?_
  clear hG hr0 hr1
  by_cases hl : (l0.length : Int) > 1048576
  · repeat' (first | refine rbt ?_ | refine rbf ?_ | refine wn ?_ | refine wq ?_ | refine wc_plain ?_ | refine wc_draw ?_ | refine rZ ?_ | refine rD ?_ | refine ve8 ?_ | refine ve4 ?_ | refine ve3 ?_ | refine ve1 ?_ | refine ve2 ?_ | refine ve5 ?_ | refine ve6 ?_ | refine ve7 ?_ | refine ve9 ?_ | refine rA ?_ | refine rE ?_ | refine rC ?_ | refine rB ?_ | refine rG ?_ | refine rH ?_ | refine rI ?_ | refine rJ ?_ | refine rcb ?_ | refine wb ?_ | refine wk ?_ | refine we ?_ | exact wt | refine wr ?_ | refine rr1 ?_ | refine rr2 ?_ | exact fr | exact fe | refine wTs ?_ | refine wFs ?_ | refine rof ?_ | refine rof0 ?_)
  by_cases hm : (l1.length : Int) > 1048576
  · repeat' (first | refine rbt ?_ | refine rbf ?_ | refine wn ?_ | refine wq ?_ | refine wc_plain ?_ | refine wc_draw ?_ | refine rZ ?_ | refine rD ?_ | refine ve8 ?_ | refine ve4 ?_ | refine ve3 ?_ | refine ve1 ?_ | refine ve2 ?_ | refine ve5 ?_ | refine ve6 ?_ | refine ve7 ?_ | refine ve9 ?_ | refine rA ?_ | refine rE ?_ | refine rC ?_ | refine rB ?_ | refine rG ?_ | refine rH ?_ | refine rI ?_ | refine rJ ?_ | refine rcb ?_ | refine wb ?_ | refine wk ?_ | refine we ?_ | exact wt | refine wr ?_ | refine rr1 ?_ | refine rr2 ?_ | exact fr | exact fe | refine wTs ?_ | refine wFs ?_ | refine rof ?_ | refine rof0 ?_)
  obtain ⟨ax, ay, ai, bx, by_, bi, d1, pa, pb⟩ := Draw.drawAdd l0 (by omega) (k := 1002) (by omega)
  obtain ⟨kk, cx, cy, ci, d2, k0, k1, pc⟩ := Draw.drawTimes l1 (by omega) (k := 1002) (by omega)
  have oa := onCurve_spec ax ay ai pa.x0 pa.y0
  have ob := onCurve_spec bx by_ bi pb.x0 pb.y0
  have oc_ := onCurve_spec cx cy ci pc.x0 pc.y0
  by_cases ha : oc ax ay ai = true
  · by_cases hb : oc bx by_ bi = true
    · by_cases hc : oc cx cy ci = true
      · obtain ⟨A, kA, eA⟩ := pa.kd ha
        obtain ⟨B, kB, eB⟩ := pb.kd hb
        obtain ⟨C, kC, eC⟩ := pc.kd hc
        obtain ⟨j, d3, j0, j1⟩ := Draw.wKey l1 3 (by omega) (by omega) (k := 20) (by omega)
        obtain ⟨x1, y1, i1, x2, y2, i2, x3, y3, i3, x4, y4, i4, x5, y5, i5, x6, y6, i6, x7, y7, i7, x8, y8, i8, v, q1, q2, q3, q4, q5, q6, q7, q8, q9, q10, q11, q12, q13, q14, q15, q16, q17, q18, q19, q20⟩ := laws_on A B C kA kB kC kk j k0 k1 j0 j1
        rw [← eA, ← eB, ← eC] at *
        rw [ha] at oa
        rw [hb] at ob
        rw [hc] at oc_
        dsimp only at q1 q2 q3 q4 q5 q6 q7 q8 q9 q10 q11 q12 q13 q14 q15 q16 q17 q18 q19 q20
        clear ha hb hc eA eB eC kA kB kC pa pb pc k0 k1 j0 j1
        by_cases hs : IntKind.u64.wrap (Int.tmod kk 2305843010818082053 + j) < 2305843010818082053
        · have q21 := q16 hs
          have hs' : decide (IntKind.u64.wrap (Int.tmod kk 2305843010818082053 + j) ≥ 2305843010818082053) = false := decide_eq_false (by omega)
          clear q16 q17 hs
          repeat' (first | refine rbt ?_ | refine rbf ?_ | refine wn ?_ | refine wq ?_ | refine wc_plain ?_ | refine wc_draw ?_ | refine rZ ?_ | refine rD ?_ | refine ve8 ?_ | refine ve4 ?_ | refine ve3 ?_ | refine ve1 ?_ | refine ve2 ?_ | refine ve5 ?_ | refine ve6 ?_ | refine ve7 ?_ | refine ve9 ?_ | refine rA ?_ | refine rE ?_ | refine rC ?_ | refine rB ?_ | refine rG ?_ | refine rH ?_ | refine rI ?_ | refine rJ ?_ | refine rcb ?_ | refine rcp (Pre := spec_DrawAdd.f _ l0 = some (_, _, _, _, _, _)) (fun hp_ w_ hΓ => spec_DrawAdd.calls _ A0 c0 l0 _ _ _ _ _ _ w_ hΓ.2.1 hc0 hp_) ?_ | refine rcp (Pre := spec_DrawTimes.f _ l1 = some (_, _, _, _)) (fun hp_ w_ hΓ => spec_DrawTimes.calls _ A1 c1 l1 _ _ _ _ w_ hΓ.2.2 hc1 hp_) ?_ | refine rcp (Pre := laws_wKey.f _ l1 _ = some _) (fun hp_ w_ hΓ => drb (laws_wKey.calls _ A1 c1 l1 _ _ w_ hΓ.2.2 hc1 hp_)) ?_ | refine rcp (Pre := spec_OnCurve.f _ _ _ = some _) (fun hp_ w_ hΓ => spec_OnCurve.calls _ _ _ _ w_ hp_) ?_ | refine rcp (Pre := impl_Add.f _ _ _ _ _ _ _ = some (_, _, _)) (fun hp_ w_ hΓ => impl_Add.calls _ _ _ _ _ _ _ _ _ _ w_ (by first | exact hΓ | exact hΓ.1 | exact hΓ.z | exact hΓ.r | exact hΓ.1.z | exact hΓ.1.r) hp_) ?_ | refine rcp (Pre := spec_Add.f _ _ _ _ _ _ _ = some (_, _, _)) (fun hp_ w_ hΓ => spec_Add.calls _ _ _ _ _ _ _ _ _ _ w_ hp_) ?_ | refine rcp (Pre := impl_Negative.f _ _ _ _ = some (_, _, _)) (fun hp_ w_ hΓ => impl_Negative.calls _ _ _ _ _ _ _ w_ (by first | exact hΓ | exact hΓ.1 | exact hΓ.z | exact hΓ.r | exact hΓ.1.z | exact hΓ.1.r) hp_) ?_ | refine rcp (Pre := impl_Times.f _ _ _ _ _ = some (_, _, _)) (fun hp_ w_ hΓ => impl_Times.calls _ _ _ _ _ _ _ _ w_ (by first | exact hΓ | exact hΓ.1 | exact hΓ.z | exact hΓ.r | exact hΓ.1.z | exact hΓ.1.r) hp_) ?_ | refine rcp (Pre := spec_Times.f _ _ _ _ _ = some (_, _, _)) (fun hp_ w_ hΓ => spec_Times.calls _ _ _ _ _ _ _ _ w_ hp_) ?_ | refine rcp (Pre := spec_MulMod.f _ _ _ _ = some _) (fun hp_ w_ hΓ => drb (spec_MulMod.calls _ _ _ _ _ w_ hp_)) ?_ | refine rcp (Pre := impl_OnCurve.f _ _ _ _ = some _) (fun hp_ w_ hΓ => impl_OnCurve.calls _ _ _ _ _ w_ (by first | exact hΓ | exact hΓ.1 | exact hΓ.z | exact hΓ.r | exact hΓ.1.z | exact hΓ.1.r) hp_) ?_ | refine req (fun w_ => eq_pt w_) ?_ | refine req (fun w_ => ne_pt w_) ?_ | refine wb ?_ | refine wk ?_ | refine we ?_ | exact wt | refine wr ?_ | refine rr1 ?_ | refine rr2 ?_ | exact fr | exact fe | refine wTs ?_ | refine wFs ?_ | refine rof ?_ | refine rof0 ?_)
        · have q21 := q17 hs
          have hs' : decide (IntKind.u64.wrap (Int.tmod kk 2305843010818082053 + j) ≥ 2305843010818082053) = true := decide_eq_true (by omega)
          clear q16 q17 hs
          repeat' (first | refine rbt ?_ | refine rbf ?_ | refine wn ?_ | refine wq ?_ | refine wc_plain ?_ | refine wc_draw ?_ | refine rZ ?_ | refine rD ?_ | refine ve8 ?_ | refine ve4 ?_ | refine ve3 ?_ | refine ve1 ?_ | refine ve2 ?_ | refine ve5 ?_ | refine ve6 ?_ | refine ve7 ?_ | refine ve9 ?_ | refine rA ?_ | refine rE ?_ | refine rC ?_ | refine rB ?_ | refine rG ?_ | refine rH ?_ | refine rI ?_ | refine rJ ?_ | refine rcb ?_ | refine rcp (Pre := spec_DrawAdd.f _ l0 = some (_, _, _, _, _, _)) (fun hp_ w_ hΓ => spec_DrawAdd.calls _ A0 c0 l0 _ _ _ _ _ _ w_ hΓ.2.1 hc0 hp_) ?_ | refine rcp (Pre := spec_DrawTimes.f _ l1 = some (_, _, _, _)) (fun hp_ w_ hΓ => spec_DrawTimes.calls _ A1 c1 l1 _ _ _ _ w_ hΓ.2.2 hc1 hp_) ?_ | refine rcp (Pre := laws_wKey.f _ l1 _ = some _) (fun hp_ w_ hΓ => drb (laws_wKey.calls _ A1 c1 l1 _ _ w_ hΓ.2.2 hc1 hp_)) ?_ | refine rcp (Pre := spec_OnCurve.f _ _ _ = some _) (fun hp_ w_ hΓ => spec_OnCurve.calls _ _ _ _ w_ hp_) ?_ | refine rcp (Pre := impl_Add.f _ _ _ _ _ _ _ = some (_, _, _)) (fun hp_ w_ hΓ => impl_Add.calls _ _ _ _ _ _ _ _ _ _ w_ (by first | exact hΓ | exact hΓ.1 | exact hΓ.z | exact hΓ.r | exact hΓ.1.z | exact hΓ.1.r) hp_) ?_ | refine rcp (Pre := spec_Add.f _ _ _ _ _ _ _ = some (_, _, _)) (fun hp_ w_ hΓ => spec_Add.calls _ _ _ _ _ _ _ _ _ _ w_ hp_) ?_ | refine rcp (Pre := impl_Negative.f _ _ _ _ = some (_, _, _)) (fun hp_ w_ hΓ => impl_Negative.calls _ _ _ _ _ _ _ w_ (by first | exact hΓ | exact hΓ.1 | exact hΓ.z | exact hΓ.r | exact hΓ.1.z | exact hΓ.1.r) hp_) ?_ | refine rcp (Pre := impl_Times.f _ _ _ _ _ = some (_, _, _)) (fun hp_ w_ hΓ => impl_Times.calls _ _ _ _ _ _ _ _ w_ (by first | exact hΓ | exact hΓ.1 | exact hΓ.z | exact hΓ.r | exact hΓ.1.z | exact hΓ.1.r) hp_) ?_ | refine rcp (Pre := spec_Times.f _ _ _ _ _ = some (_, _, _)) (fun hp_ w_ hΓ => spec_Times.calls _ _ _ _ _ _ _ _ w_ hp_) ?_ | refine rcp (Pre := spec_MulMod.f _ _ _ _ = some _) (fun hp_ w_ hΓ => drb (spec_MulMod.calls _ _ _ _ _ w_ hp_)) ?_ | refine rcp (Pre := impl_OnCurve.f _ _ _ _ = some _) (fun hp_ w_ hΓ => impl_OnCurve.calls _ _ _ _ _ w_ (by first | exact hΓ | exact hΓ.1 | exact hΓ.z | exact hΓ.r | exact hΓ.1.z | exact hΓ.1.r) hp_) ?_ | refine req (fun w_ => eq_pt w_) ?_ | refine req (fun w_ => ne_pt w_) ?_ | refine wb ?_ | refine wk ?_ | refine we ?_ | exact wt | refine wr ?_ | refine rr1 ?_ | refine rr2 ?_ | exact fr | exact fe | refine wTs ?_ | refine wFs ?_ | refine rof ?_ | refine rof0 ?_)
      · have hc' : oc cx cy ci = false := by simpa using hc
        rw [ha] at oa
        rw [hb] at ob
        rw [hc'] at oc_
        obtain ⟨u1, u2, u3, g1, g2⟩ := add_any ax ay ai bx by_ bi pa pb
        obtain ⟨v1, v2, v3, g3, g4⟩ := times_any kk cx cy ci ⟨k0, k1⟩ pc
        clear ha hb hc hc' pa pb pc k0 k1
        repeat' (first | refine rbt ?_ | refine rbf ?_ | refine wn ?_ | refine wq ?_ | refine wc_plain ?_ | refine wc_draw ?_ | refine rZ ?_ | refine rD ?_ | refine ve8 ?_ | refine ve4 ?_ | refine ve3 ?_ | refine ve1 ?_ | refine ve2 ?_ | refine ve5 ?_ | refine ve6 ?_ | refine ve7 ?_ | refine ve9 ?_ | refine rA ?_ | refine rE ?_ | refine rC ?_ | refine rB ?_ | refine rG ?_ | refine rH ?_ | refine rI ?_ | refine rJ ?_ | refine rcb ?_ | refine rcp (Pre := spec_DrawAdd.f _ l0 = some (_, _, _, _, _, _)) (fun hp_ w_ hΓ => spec_DrawAdd.calls _ A0 c0 l0 _ _ _ _ _ _ w_ hΓ.2.1 hc0 hp_) ?_ | refine rcp (Pre := spec_DrawTimes.f _ l1 = some (_, _, _, _)) (fun hp_ w_ hΓ => spec_DrawTimes.calls _ A1 c1 l1 _ _ _ _ w_ hΓ.2.2 hc1 hp_) ?_ | refine rcp (Pre := laws_wKey.f _ l1 _ = some _) (fun hp_ w_ hΓ => drb (laws_wKey.calls _ A1 c1 l1 _ _ w_ hΓ.2.2 hc1 hp_)) ?_ | refine rcp (Pre := spec_OnCurve.f _ _ _ = some _) (fun hp_ w_ hΓ => spec_OnCurve.calls _ _ _ _ w_ hp_) ?_ | refine rcp (Pre := impl_Add.f _ _ _ _ _ _ _ = some (_, _, _)) (fun hp_ w_ hΓ => impl_Add.calls _ _ _ _ _ _ _ _ _ _ w_ (by first | exact hΓ | exact hΓ.1 | exact hΓ.z | exact hΓ.r | exact hΓ.1.z | exact hΓ.1.r) hp_) ?_ | refine rcp (Pre := spec_Add.f _ _ _ _ _ _ _ = some (_, _, _)) (fun hp_ w_ hΓ => spec_Add.calls _ _ _ _ _ _ _ _ _ _ w_ hp_) ?_ | refine rcp (Pre := impl_Negative.f _ _ _ _ = some (_, _, _)) (fun hp_ w_ hΓ => impl_Negative.calls _ _ _ _ _ _ _ w_ (by first | exact hΓ | exact hΓ.1 | exact hΓ.z | exact hΓ.r | exact hΓ.1.z | exact hΓ.1.r) hp_) ?_ | refine rcp (Pre := impl_Times.f _ _ _ _ _ = some (_, _, _)) (fun hp_ w_ hΓ => impl_Times.calls _ _ _ _ _ _ _ _ w_ (by first | exact hΓ | exact hΓ.1 | exact hΓ.z | exact hΓ.r | exact hΓ.1.z | exact hΓ.1.r) hp_) ?_ | refine rcp (Pre := spec_Times.f _ _ _ _ _ = some (_, _, _)) (fun hp_ w_ hΓ => spec_Times.calls _ _ _ _ _ _ _ _ w_ hp_) ?_ | refine rcp (Pre := spec_MulMod.f _ _ _ _ = some _) (fun hp_ w_ hΓ => drb (spec_MulMod.calls _ _ _ _ _ w_ hp_)) ?_ | refine rcp (Pre := impl_OnCurve.f _ _ _ _ = some _) (fun hp_ w_ hΓ => impl_OnCurve.calls _ _ _ _ _ w_ (by first | exact hΓ | exact hΓ.1 | exact hΓ.z | exact hΓ.r | exact hΓ.1.z | exact hΓ.1.r) hp_) ?_ | refine req (fun w_ => eq_pt w_) ?_ | refine req (fun w_ => ne_pt w_) ?_ | refine wb ?_ | refine wk ?_ | refine we ?_ | exact wt | refine wr ?_ | refine rr1 ?_ | refine rr2 ?_ | exact fr | exact fe | refine wTs ?_ | refine wFs ?_ | refine rof ?_ | refine rof0 ?_)
    · have hb' : oc bx by_ bi = false := by simpa using hb
      rw [ha] at oa
      rw [hb'] at ob
      obtain ⟨u1, u2, u3, g1, g2⟩ := add_any ax ay ai bx by_ bi pa pb
      obtain ⟨v1, v2, v3, g3, g4⟩ := times_any kk cx cy ci ⟨k0, k1⟩ pc
      clear ha hb hb' oc_ pa pb pc k0 k1
      repeat' (first | refine rbt ?_ | refine rbf ?_ | refine wn ?_ | refine wq ?_ | refine wc_plain ?_ | refine wc_draw ?_ | refine rZ ?_ | refine rD ?_ | refine ve8 ?_ | refine ve4 ?_ | refine ve3 ?_ | refine ve1 ?_ | refine ve2 ?_ | refine ve5 ?_ | refine ve6 ?_ | refine ve7 ?_ | refine ve9 ?_ | refine rA ?_ | refine rE ?_ | refine rC ?_ | refine rB ?_ | refine rG ?_ | refine rH ?_ | refine rI ?_ | refine rJ ?_ | refine rcb ?_ | refine rcp (Pre := spec_DrawAdd.f _ l0 = some (_, _, _, _, _, _)) (fun hp_ w_ hΓ => spec_DrawAdd.calls _ A0 c0 l0 _ _ _ _ _ _ w_ hΓ.2.1 hc0 hp_) ?_ | refine rcp (Pre := spec_DrawTimes.f _ l1 = some (_, _, _, _)) (fun hp_ w_ hΓ => spec_DrawTimes.calls _ A1 c1 l1 _ _ _ _ w_ hΓ.2.2 hc1 hp_) ?_ | refine rcp (Pre := laws_wKey.f _ l1 _ = some _) (fun hp_ w_ hΓ => drb (laws_wKey.calls _ A1 c1 l1 _ _ w_ hΓ.2.2 hc1 hp_)) ?_ | refine rcp (Pre := spec_OnCurve.f _ _ _ = some _) (fun hp_ w_ hΓ => spec_OnCurve.calls _ _ _ _ w_ hp_) ?_ | refine rcp (Pre := impl_Add.f _ _ _ _ _ _ _ = some (_, _, _)) (fun hp_ w_ hΓ => impl_Add.calls _ _ _ _ _ _ _ _ _ _ w_ (by first | exact hΓ | exact hΓ.1 | exact hΓ.z | exact hΓ.r | exact hΓ.1.z | exact hΓ.1.r) hp_) ?_ | refine rcp (Pre := spec_Add.f _ _ _ _ _ _ _ = some (_, _, _)) (fun hp_ w_ hΓ => spec_Add.calls _ _ _ _ _ _ _ _ _ _ w_ hp_) ?_ | refine rcp (Pre := impl_Negative.f _ _ _ _ = some (_, _, _)) (fun hp_ w_ hΓ => impl_Negative.calls _ _ _ _ _ _ _ w_ (by first | exact hΓ | exact hΓ.1 | exact hΓ.z | exact hΓ.r | exact hΓ.1.z | exact hΓ.1.r) hp_) ?_ | refine rcp (Pre := impl_Times.f _ _ _ _ _ = some (_, _, _)) (fun hp_ w_ hΓ => impl_Times.calls _ _ _ _ _ _ _ _ w_ (by first | exact hΓ | exact hΓ.1 | exact hΓ.z | exact hΓ.r | exact hΓ.1.z | exact hΓ.1.r) hp_) ?_ | refine rcp (Pre := spec_Times.f _ _ _ _ _ = some (_, _, _)) (fun hp_ w_ hΓ => spec_Times.calls _ _ _ _ _ _ _ _ w_ hp_) ?_ | refine rcp (Pre := spec_MulMod.f _ _ _ _ = some _) (fun hp_ w_ hΓ => drb (spec_MulMod.calls _ _ _ _ _ w_ hp_)) ?_ | refine rcp (Pre := impl_OnCurve.f _ _ _ _ = some _) (fun hp_ w_ hΓ => impl_OnCurve.calls _ _ _ _ _ w_ (by first | exact hΓ | exact hΓ.1 | exact hΓ.z | exact hΓ.r | exact hΓ.1.z | exact hΓ.1.r) hp_) ?_ | refine req (fun w_ => eq_pt w_) ?_ | refine req (fun w_ => ne_pt w_) ?_ | refine wb ?_ | refine wk ?_ | refine we ?_ | exact wt | refine wr ?_ | refine rr1 ?_ | refine rr2 ?_ | exact fr | exact fe | refine wTs ?_ | refine wFs ?_ | refine rof ?_ | refine rof0 ?_)
  · have ha' : oc ax ay ai = false := by simpa using ha
    rw [ha'] at oa
    obtain ⟨u1, u2, u3, g1, g2⟩ := add_any ax ay ai bx by_ bi pa pb
    obtain ⟨v1, v2, v3, g3, g4⟩ := times_any kk cx cy ci ⟨k0, k1⟩ pc
    clear ha ha' ob oc_ pa pb pc k0 k1
    repeat' (first | refine rbt ?_ | refine rbf ?_ | refine wn ?_ | refine wq ?_ | refine wc_plain ?_ | refine wc_draw ?_ | refine rZ ?_ | refine rD ?_ | refine ve8 ?_ | refine ve4 ?_ | refine ve3 ?_ | refine ve1 ?_ | refine ve2 ?_ | refine ve5 ?_ | refine ve6 ?_ | refine ve7 ?_ | refine ve9 ?_ | refine rA ?_ | refine rE ?_ | refine rC ?_ | refine rB ?_ | refine rG ?_ | refine rH ?_ | refine rI ?_ | refine rJ ?_ | refine rcb ?_ | refine rcp (Pre := spec_DrawAdd.f _ l0 = some (_, _, _, _, _, _)) (fun hp_ w_ hΓ => spec_DrawAdd.calls _ A0 c0 l0 _ _ _ _ _ _ w_ hΓ.2.1 hc0 hp_) ?_ | refine rcp (Pre := spec_DrawTimes.f _ l1 = some (_, _, _, _)) (fun hp_ w_ hΓ => spec_DrawTimes.calls _ A1 c1 l1 _ _ _ _ w_ hΓ.2.2 hc1 hp_) ?_ | refine rcp (Pre := laws_wKey.f _ l1 _ = some _) (fun hp_ w_ hΓ => drb (laws_wKey.calls _ A1 c1 l1 _ _ w_ hΓ.2.2 hc1 hp_)) ?_ | refine rcp (Pre := spec_OnCurve.f _ _ _ = some _) (fun hp_ w_ hΓ => spec_OnCurve.calls _ _ _ _ w_ hp_) ?_ | refine rcp (Pre := impl_Add.f _ _ _ _ _ _ _ = some (_, _, _)) (fun hp_ w_ hΓ => impl_Add.calls _ _ _ _ _ _ _ _ _ _ w_ (by first | exact hΓ | exact hΓ.1 | exact hΓ.z | exact hΓ.r | exact hΓ.1.z | exact hΓ.1.r) hp_) ?_ | refine rcp (Pre := spec_Add.f _ _ _ _ _ _ _ = some (_, _, _)) (fun hp_ w_ hΓ => spec_Add.calls _ _ _ _ _ _ _ _ _ _ w_ hp_) ?_ | refine rcp (Pre := impl_Negative.f _ _ _ _ = some (_, _, _)) (fun hp_ w_ hΓ => impl_Negative.calls _ _ _ _ _ _ _ w_ (by first | exact hΓ | exact hΓ.1 | exact hΓ.z | exact hΓ.r | exact hΓ.1.z | exact hΓ.1.r) hp_) ?_ | refine rcp (Pre := impl_Times.f _ _ _ _ _ = some (_, _, _)) (fun hp_ w_ hΓ => impl_Times.calls _ _ _ _ _ _ _ _ w_ (by first | exact hΓ | exact hΓ.1 | exact hΓ.z | exact hΓ.r | exact hΓ.1.z | exact hΓ.1.r) hp_) ?_ | refine rcp (Pre := spec_Times.f _ _ _ _ _ = some (_, _, _)) (fun hp_ w_ hΓ => spec_Times.calls _ _ _ _ _ _ _ _ w_ hp_) ?_ | refine rcp (Pre := spec_MulMod.f _ _ _ _ = some _) (fun hp_ w_ hΓ => drb (spec_MulMod.calls _ _ _ _ _ w_ hp_)) ?_ | refine rcp (Pre := impl_OnCurve.f _ _ _ _ = some _) (fun hp_ w_ hΓ => impl_OnCurve.calls _ _ _ _ _ w_ (by first | exact hΓ | exact hΓ.1 | exact hΓ.z | exact hΓ.r | exact hΓ.1.z | exact hΓ.1.r) hp_) ?_ | refine req (fun w_ => eq_pt w_) ?_ | refine req (fun w_ => ne_pt w_) ?_ | refine wb ?_ | refine wk ?_ | refine we ?_ | exact wt | refine wr ?_ | refine rr1 ?_ | refine rr2 ?_ | exact fr | exact fe | refine wTs ?_ | refine wFs ?_ | refine rof ?_ | refine rof0 ?_)
def laws_FnGroup.Pure : Prop := True
theorem laws_FnGroup.walk (_P : laws_FnGroup.Pure) (a0 : Option Addr) (len0 cap0 : Nat) (z0 : List Int) (a1 : Option Addr) (len1 cap1 : Nat) (z1 : List Int) (w : World) (hG : G w)
    (w0 : (a0 = none ∧ len0 = 0 ∧ cap0 = 0 ∧ z0 = []) ∨ ∃ x, a0 = some x ∧ len0 ≤ cap0 ∧ cap0 ≤ maxLen ∧ z0.length = cap0 ∧ (∀ i, i < z0.length → w.cell? (x.add i) = some (.int .u8 (z0.getD i 0))) ∧ ∀ n ∈ z0, (Lit.int .u8 n).wf = true) (y0 : len0 * 1 ≤ 140737488351232)
    (w1 : (a1 = none ∧ len1 = 0 ∧ cap1 = 0 ∧ z1 = []) ∨ ∃ x, a1 = some x ∧ len1 ≤ cap1 ∧ cap1 ≤ maxLen ∧ z1.length = cap1 ∧ (∀ i, i < z1.length → w.cell? (x.add i) = some (.int .u8 (z1.getD i 0))) ∧ ∀ n ∈ z1, (Lit.int .u8 n).wf = true) (y1 : len1 * 1 ≤ 140737488351232) :
    Calls Tryd.prog 3 #[.slice a0 len0 cap0, .slice a1 len1 cap1] w fun e w' => e = .returned (.bool true) ∧ Below w.heap.size w w' := by
  obtain ⟨l0, rfl, hr0, hm0, hw0, hc0⟩ := ReadsInt.ofRowC w0
  obtain ⟨l1, rfl, hr1, hm1, hw1, hc1⟩ := ReadsInt.ofRowC w1
  exact laws_FnGroup.calls _ _ l0 _ _ l1 w hG (Kd.C_of_reads (d := (0 : Int)) (h1 := fun _ => rfl) hr0) hc0 (Kd.C_of_reads (d := (0 : Int)) (h1 := fun _ => rfl) hr1) hc1
end Go.Proofs.YtoejhekppfgmpaaDoor.VaGroup
namespace Go.Proofs.YtoejhekppfgmpaaDoor.Pure
theorem FnGroup : VaGroup.laws_FnGroup.Pure := trivial
end Go.Proofs.YtoejhekppfgmpaaDoor.Pure
end
