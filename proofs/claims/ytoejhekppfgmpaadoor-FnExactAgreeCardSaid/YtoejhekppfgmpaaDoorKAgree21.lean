/- What the proof of FnExactAgree leans on, part 21: cut out of the texts of this claim's making by a program (wip/tools/pack.py). -/
import Derived.Test.YtoejhekppfgmpaaDoorKAgree4
import Derived.Test.YtoejhekppfgmpaaDoorKAgree8
import Derived.Test.YtoejhekppfgmpaaDoorKAgree9
import Derived.Test.YtoejhekppfgmpaaDoorKAgree16
import Derived.Test.YtoejhekppfgmpaaDoorKAgree17
import Derived.Test.YtoejhekppfgmpaaDoorKAgree18
import Derived.Test.YtoejhekppfgmpaaDoorKAgree19
import Derived.Test.YtoejhekppfgmpaaDoorKAgree20
import Derived.KernelRfl
import Derived.OpenShut
import Derived.WalkKit
section
namespace Go.Proofs.YtoejhekppfgmpaaDoor.VaAgree
open Go Go.RowKit Go.Proofs.YtoejhekppfgmpaaDoorW.PrintWords Go.Proofs.YtoejhekppfgmpaaDoorW.PrintLast Go.Proofs.YtoejhekppfgmpaaDoorW.PrintMore Go.Proofs.YtoejhekppfgmpaaDoor.Ve Go.Proofs.YtoejhekppfgmpaaDoor.VeT Go.Proofs.YtoejhekppfgmpaaDoor.G3 Go.Proofs.YtoejhekppfgmpaaDoor.KG2 Go.Proofs.YtoejhekppfgmpaaDoor.KH2 Go.Proofs.YtoejhekppfgmpaaDoor.B Go.Proofs.YtoejhekppfgmpaaDoor.C Go.Proofs.YtoejhekppfgmpaaDoor.Ag Go.Proofs.YtoejhekppfgmpaaDoor.Hp Go.Proofs.YtoejhekppfgmpaaDoor.Pure
set_option linter.unusedVariables false
set_option linter.unusedSimpArgs false
theorem agree_same (a0 a1 : Int) (a2 : Bool) (b0 b1 : Int) (b2 : Bool) (c0 c1 : Int) (c2 : Bool) (s : ByteArray) (ha0 : 0 ≤ a0 ∧ a0 < 18446744073709551616) (ha1 : 0 ≤ a1 ∧ a1 < 18446744073709551616) (hb0 : 0 ≤ b0 ∧ b0 < 18446744073709551616) (hb1 : 0 ≤ b1 ∧ b1 < 18446744073709551616) (hc0 : 0 ≤ c0 ∧ c0 < 18446744073709551616) (hc1 : 0 ≤ c1 ∧ c1 < 18446744073709551616) (hs : s.size ≤ 1048576) :
    ∃ q1 q2 q3 : ByteArray, spec_Agree.f 2000 a0 a1 a2 b0 b1 b2 c0 c1 c2 s = some (q1, q2, q3) ∧ impl_Agree.f a0 a1 a2 b0 b1 b2 c0 c1 c2 s = some (q1, q2, q3) := by
  have xs : ∀ x : ByteArray, x.size ≤ 1048576 → spec_Sha256.f x = some (Ks.sha1 x) := fun x hx => by unfold spec_Sha256.f; rw [if_pos (by omega)]
  have xi : ∀ x : ByteArray, x.size ≤ 1048576 → impl_Sha256.f x = some (Ks.sha1 x) := fun x hx => by unfold impl_Sha256.f; rw [if_pos (by omega)]
  have xp : (putWord (ptWord a0 a1 a2) ++ putWord (ptWord b0 b1 b2)).size = 16 := by rw [app_size, putWord_size, putWord_size]
  have xq : (putWord (ptWord a0 a1 a2) ++ putWord (ptWord b0 b1 b2) ++ putWord (ptWord c0 c1 c2)).size = 24 := by rw [app_size, xp, putWord_size]
  have ei : ∀ a : ByteArray, a.size ≤ 1048576 → impl_Extract.f (⟨#[]⟩ : ByteArray) a = some (hm1 ⟨#[]⟩ a) := fun a h => by unfold impl_Extract.f; rw [if_pos (by decide), if_pos (by omega)]
  have es : ∀ a : ByteArray, a.size ≤ 1048576 → spec_Extract.f 2000 (⟨#[]⟩ : ByteArray) a = some (hm1 ⟨#[]⟩ a) := fun a h => by
    unfold spec_Extract.f
    rw [hmac_spec _ _ (by decide) (by omega) _ (by omega), Option.bind_some]
  have hmz : ∀ a b : ByteArray, (hm1 a b).size = 32 := fun a b => by rw [hm_eq, sha1_size]
  have ex : ∀ i : ByteArray, i.size ≤ 1048576 → ∀ x : ByteArray, x.size = 32 → spec_Expand.f 2000 x i 32 = impl_Expand.f x i 32 := fun i hi x hx => exp_spec x i 32 (by omega) (by omega)
  have el : ∀ i x : ByteArray, i.size ≤ 1048576 → x.size = 32 → impl_Expand.f x i 32 = some (exp1 x i 32, true) := fun i x hi hx => by
    unfold impl_Expand.f
    rw [if_neg (by decide), if_neg (by decide), if_pos (by omega), if_pos (by omega)]; rfl
  have hz := sha1_size s
  have l7 : ∀ (x : ByteArray) (wd : ByteArray), x.size = 32 → wd.size ≤ 7 → spec_l7Expanded.f 2000 x wd s = some (exp1 x (wd ++ Ks.sha1 s) 32) := fun x wd hx hw => by
    unfold spec_l7Expanded.f
    rw [xs s hs, Option.bind_some, if_pos (by omega), ex _ (by rw [app_size]; omega) x hx, el _ x (by rw [app_size]; omega) hx, Option.bind_some]
  refine ⟨exp1 (hm1 ⟨#[]⟩ (putWord (ptWord a0 a1 a2) ++ putWord (ptWord b0 b1 b2) ++ putWord (ptWord c0 c1 c2))) ((⟨#[83, 101, 115, 115, 105, 111, 110]⟩ : ByteArray) ++ Ks.sha1 s) 32, exp1 (hm1 ⟨#[]⟩ (putWord (ptWord a0 a1 a2) ++ putWord (ptWord b0 b1 b2) ++ putWord (ptWord c0 c1 c2))) ((⟨#[83, 101, 114, 118, 101, 114]⟩ : ByteArray) ++ Ks.sha1 s) 32, exp1 (hm1 ⟨#[]⟩ (putWord (ptWord a0 a1 a2) ++ putWord (ptWord b0 b1 b2) ++ putWord (ptWord c0 c1 c2))) ((⟨#[67, 108, 105, 101, 110, 116]⟩ : ByteArray) ++ Ks.sha1 s) 32, ?_, ?_⟩
  rotate_left
  · unfold impl_Agree.f
    rw [putPoint_impl a0 a1 a2 ha0.1 ha0.2 ha1.1 ha1.2 (by omega), Option.bind_some, putPoint_impl b0 b1 b2 hb0.1 hb0.2 hb1.1 hb1.2 (by omega), Option.bind_some, putPoint_impl c0 c1 c2 hc0.1 hc0.2 hc1.1 hc1.2 (by omega), Option.bind_some,
      if_pos (by rw [putWord_size, putWord_size]; decide), if_pos (by rw [xp, putWord_size]; decide), ei _ (by rw [xq]; decide), Option.bind_some, xi s hs, Option.bind_some, if_pos (by omega),
      el _ _ (by rw [app_size, hz]; decide) (hmz _ _), Option.bind_some, el _ _ (by rw [app_size, hz]; decide) (hmz _ _), Option.bind_some, el _ _ (by rw [app_size, hz]; decide) (hmz _ _), Option.bind_some]
  · unfold spec_Agree.f
    rw [putPoint_spec a0 a1 a2 ha0.1 ha0.2 ha1.1 ha1.2 (by omega), Option.bind_some, putPoint_spec b0 b1 b2 hb0.1 hb0.2 hb1.1 hb1.2 (by omega), Option.bind_some,
      if_pos (by rw [putWord_size, putWord_size]; decide), putPoint_spec c0 c1 c2 hc0.1 hc0.2 hc1.1 hc1.2 (by omega), Option.bind_some, if_pos (by rw [xp, putWord_size]; decide), es _ (by rw [xq]; decide), Option.bind_some,
      l7 _ _ (hmz _ _) (by decide), Option.bind_some, l7 _ _ (hmz _ _) (by decide), Option.bind_some, l7 _ _ (hmz _ _) (by decide), Option.bind_some]
def laws_FnExactAgree.f (a0 a1 : Int) (a2 : Bool) (b0 b1 : Int) (b2 : Bool) (c0 c1 : Int) (c2 : Bool) (s : ByteArray) : Option Bool :=
  if 0 ≤ a0 ∧ a0 < 18446744073709551616 ∧ 0 ≤ a1 ∧ a1 < 18446744073709551616 ∧ 0 ≤ b0 ∧ b0 < 18446744073709551616 ∧ 0 ≤ b1 ∧ b1 < 18446744073709551616 ∧ 0 ≤ c0 ∧ c0 < 18446744073709551616 ∧ 0 ≤ c1 ∧ c1 < 18446744073709551616 then some true else none
set_option maxRecDepth 100000 in
set_option maxHeartbeats 8000000 in
theorem laws_FnExactAgree.calls (a0 a1 : Int) (a2 : Bool) (b0 b1 : Int) (b2 : Bool) (c0 c1 : Int) (c2 : Bool) (s : ByteArray) (r : Bool) (w : World) (hG : G w) (h : laws_FnExactAgree.f a0 a1 a2 b0 b1 b2 c0 c1 c2 s = some r) :
    Calls Tryd.prog 5 #[.agg #[.int .u64 a0, .int .u64 a1, .bool a2], .agg #[.int .u64 b0, .int .u64 b1, .bool b2], .agg #[.int .u64 c0, .int .u64 c1, .bool c2], .string s] w fun e w' => e = .returned (.bool r) ∧ Below w.heap.size w w' := by
  unfold laws_FnExactAgree.f at h
  split at h
  case isFalse => cases h
  rename_i hh
  obtain ⟨x0, x1, x2, x3, x4, x5, x6, x7, x8, x9, x10, x11⟩ := hh
  obtain rfl := Option.some.inj h
  clear h
  refine ve_fn (args := [.agg #[.int .u64 a0, .int .u64 a1, .bool a2], .agg #[.int .u64 b0, .int .u64 b1, .bool b2], .agg #[.int .u64 c0, .int .u64 c1, .bool c2], .string s]) Tryd.func5 rfl Tryd.ntmps5 rfl (good (Γ := fun W => G W) (fun W hb => G_below hb hG)) ?_
  by_cases hs : (s.size : Int) > 1048576
  · clear x0 x1 x2 x3 x4 x5 x6 x7 x8 x9 x10 x11
    repeat' (first | refine rbt ?_ | refine rbf ?_ | refine wn ?_ | refine wq ?_ | refine wc_plain ?_ | refine wc_draw ?_ | refine rZ ?_ | refine rD ?_ | refine r8 ?_ | refine r4 ?_ | refine r3 ?_ | refine r1 ?_ | refine r2 ?_ | refine r5 ?_ | refine r6 ?_ | refine r7 ?_ | refine r9 ?_ | refine rA ?_ | refine rE ?_ | refine rC ?_ | refine rB ?_ | refine rG ?_ | refine rH ?_ | refine rI ?_ | refine rJ ?_ | refine rcb ?_ | refine wb ?_ | refine wk ?_ | refine we ?_ | exact wt | refine wr ?_ | refine rr1 ?_ | refine rr2 ?_ | exact fr | exact fe | refine wTs ?_ | refine wFs ?_ | refine rof ?_ | refine rof0 ?_)
  · obtain ⟨q1, q2, q3, e1, e2⟩ := agree_same a0 a1 a2 b0 b1 b2 c0 c1 c2 s ⟨x0, x1⟩ ⟨x2, x3⟩ ⟨x4, x5⟩ ⟨x6, x7⟩ ⟨x8, x9⟩ ⟨x10, x11⟩ (by omega)
    have p1 : laws_toPoint.f a0 a1 a2 = some (a0, a1, a2) := rfl
    have p2 : laws_toPoint.f b0 b1 b2 = some (b0, b1, b2) := rfl
    have p3 : laws_toPoint.f c0 c1 c2 = some (c0, c1, c2) := rfl
    have p4 : laws_eqKeys.f q1 q2 q3 q1 q2 q3 = some true := by unfold laws_eqKeys.f; rw [if_pos rfl, if_pos rfl, if_pos rfl]
    clear x0 x1 x2 x3 x4 x5 x6 x7 x8 x9 x10 x11
    repeat' (first | refine rbt ?_ | refine rbf ?_ | refine wn ?_ | refine wq ?_ | refine wc_plain ?_ | refine wc_draw ?_ | refine rZ ?_ | refine rD ?_ | refine r8 ?_ | refine r4 ?_ | refine r3 ?_ | refine r1 ?_ | refine r2 ?_ | refine r5 ?_ | refine r6 ?_ | refine r7 ?_ | refine r9 ?_ | refine rA ?_ | refine rE ?_ | refine rC ?_ | refine rB ?_ | refine rG ?_ | refine rH ?_ | refine rI ?_ | refine rJ ?_ | refine rcb ?_ | refine rcp (Pre := laws_toPoint.f _ _ _ = some (_, _, _)) (fun hp_ w_ hΓ => laws_toPoint.calls _ _ _ _ _ _ w_ hp_) ?_ | refine rcp (Pre := spec_Agree.f _ _ _ _ _ _ _ _ _ _ _ = some (_, _, _)) (fun hp_ w_ hΓ => spec_Agree.calls _ _ _ _ _ _ _ _ _ _ _ _ _ _ w_ hp_) ?_ | refine rcp (Pre := impl_Agree.f _ _ _ _ _ _ _ _ _ _ = some (_, _, _)) (fun hp_ w_ hΓ => impl_Agree.calls _ _ _ _ _ _ _ _ _ _ _ _ _ w_ (by first | exact hΓ | exact hΓ.1 | exact hΓ.z | exact hΓ.r | exact hΓ.1.z | exact hΓ.1.r) hp_) ?_ | refine rcp (Pre := laws_eqKeys.f _ _ _ _ _ _ = some _) (fun hp_ w_ hΓ => laws_eqKeys.calls _ _ _ _ _ _ _ w_ hp_) ?_ | refine wb ?_ | refine wk ?_ | refine we ?_ | exact wt | refine wr ?_ | refine rr1 ?_ | refine rr2 ?_ | exact fr | exact fe | refine wTs ?_ | refine wFs ?_ | refine rof ?_ | refine rof0 ?_)
end Go.Proofs.YtoejhekppfgmpaaDoor.VaAgree
namespace Go.Proofs.YtoejhekppfgmpaaDoor.Pure
open Go Go.RowKit Go.Proofs.YtoejhekppfgmpaaDoor.VaAgree
theorem FnExactAgree (a0 a1 : Int) (a2 : Bool) (b0 b1 : Int) (b2 : Bool) (c0 c1 : Int) (c2 : Bool) (s : ByteArray) (ha0 : (Lit.int .u64 a0).wf = true) (ha1 : (Lit.int .u64 a1).wf = true) (hb0 : (Lit.int .u64 b0).wf = true) (hb1 : (Lit.int .u64 b1).wf = true) (hc0 : (Lit.int .u64 c0).wf = true) (hc1 : (Lit.int .u64 c1).wf = true) (_hs : s.size ≤ 140737488351232) : ∃ _k : Nat, laws_FnExactAgree.f a0 a1 a2 b0 b1 b2 c0 c1 c2 s = some true := by
  have := bounds_u64 ha0
  have := bounds_u64 ha1
  have := bounds_u64 hb0
  have := bounds_u64 hb1
  have := bounds_u64 hc0
  have := bounds_u64 hc1
  refine ⟨0, ?_⟩
  unfold laws_FnExactAgree.f
  rw [if_pos (by omega)]
end Go.Proofs.YtoejhekppfgmpaaDoor.Pure
end
