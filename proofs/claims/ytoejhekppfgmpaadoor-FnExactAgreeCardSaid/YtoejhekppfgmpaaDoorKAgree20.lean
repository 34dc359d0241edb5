/- What the proof of FnExactAgree leans on, part 20: cut out of the texts of this claim's making by a program (wip/tools/pack.py). -/
import Derived.Test.YtoejhekppfgmpaaDoorKAgree4
import Derived.Test.YtoejhekppfgmpaaDoorKAgree8
import Derived.Test.YtoejhekppfgmpaaDoorKAgree16
import Derived.Test.YtoejhekppfgmpaaDoorKAgree17
import Derived.Test.YtoejhekppfgmpaaDoorKAgree19
import Derived.KernelRfl
import Derived.WalkKit
section
namespace Go.Proofs.YtoejhekppfgmpaaDoor.Ag
open Go Go.RowKit Go.Proofs.YtoejhekppfgmpaaDoorW.PrintWords Go.Proofs.YtoejhekppfgmpaaDoorW.PrintLast Go.Proofs.YtoejhekppfgmpaaDoorW.PrintMore Go.Proofs.YtoejhekppfgmpaaDoor.Ve Go.Proofs.YtoejhekppfgmpaaDoor.VeT Go.Proofs.YtoejhekppfgmpaaDoor.G3 Go.Proofs.YtoejhekppfgmpaaDoor.KG2 Go.Proofs.YtoejhekppfgmpaaDoor.KH2 Go.Proofs.YtoejhekppfgmpaaDoor.C
set_option linter.unusedVariables false
set_option linter.unusedSimpArgs false
def impl_Agree.f (a0 a1 : Int) (a2 : Bool) (b0 b1 : Int) (b2 : Bool) (c0 c1 : Int) (c2 : Bool) (seen : ByteArray) : Option (ByteArray × ByteArray × ByteArray) :=
  (impl_PutPoint.f 1000 a0 a1 a2).bind fun pa => (impl_PutPoint.f 1000 b0 b1 b2).bind fun pb => (impl_PutPoint.f 1000 c0 c1 c2).bind fun pc =>
  if pa.size + pb.size ≤ 9223372036854775807 then if (pa ++ pb).size + pc.size ≤ 9223372036854775807 then
    (impl_Extract.f ⟨#[]⟩ ((pa ++ pb) ++ pc)).bind fun x => (impl_Sha256.f seen).bind fun sh =>
    if 7 + sh.size ≤ 9223372036854775807 then
      (impl_Expand.f x (⟨#[83, 101, 115, 115, 105, 111, 110]⟩ ++ sh) 32).bind fun s1 => (impl_Expand.f x (⟨#[83, 101, 114, 118, 101, 114]⟩ ++ sh) 32).bind fun s2 => (impl_Expand.f x (⟨#[67, 108, 105, 101, 110, 116]⟩ ++ sh) 32).bind fun s3 => some (s1.1, s2.1, s3.1)
    else none
  else none else none
set_option maxRecDepth 100000 in
set_option maxHeartbeats 8000000 in
theorem impl_Agree.calls (a0 a1 : Int) (a2 : Bool) (b0 b1 : Int) (b2 : Bool) (c0 c1 : Int) (c2 : Bool) (seen r1 r2 r3 : ByteArray) (w : World) (hG : G w) (h : impl_Agree.f a0 a1 a2 b0 b1 b2 c0 c1 c2 seen = some (r1, r2, r3)) :
    Calls Tryd.prog 28 #[.agg #[.int .u64 a0, .int .u64 a1, .bool a2], .agg #[.int .u64 b0, .int .u64 b1, .bool b2], .agg #[.int .u64 c0, .int .u64 c1, .bool c2], .string seen] w fun e w' => e = .returned (.agg #[.string r1, .string r2, .string r3]) ∧ Below w.heap.size w w' := by
  unfold impl_Agree.f at h
  obtain ⟨pa, ha, h⟩ := Option.bind_eq_some_iff.mp h
  obtain ⟨pb, hb, h⟩ := Option.bind_eq_some_iff.mp h
  obtain ⟨pc, hc, h⟩ := Option.bind_eq_some_iff.mp h
  split at h
  case isFalse => cases h
  split at h
  case isFalse => cases h
  obtain ⟨x, hx, h⟩ := Option.bind_eq_some_iff.mp h
  obtain ⟨sh, hs, h⟩ := Option.bind_eq_some_iff.mp h
  split at h
  case isFalse => cases h
  rename_i z1 z2 z3
  obtain ⟨⟨s1, o1⟩, h1, h⟩ := Option.bind_eq_some_iff.mp h
  obtain ⟨⟨s2, o2⟩, h2, h⟩ := Option.bind_eq_some_iff.mp h
  obtain ⟨⟨s3, o3⟩, h3, h⟩ := Option.bind_eq_some_iff.mp h
  obtain ⟨rfl, rfl, rfl⟩ : s1 = r1 ∧ s2 = r2 ∧ s3 = r3 := by simpa using h
  have y1 : (⟨#[83, 101, 115, 115, 105, 111, 110]⟩ : ByteArray).size + sh.size ≤ 9223372036854775807 := z3
  have y2 : (⟨#[83, 101, 114, 118, 101, 114]⟩ : ByteArray).size + sh.size ≤ 9223372036854775807 := by show 6 + sh.size ≤ _; omega
  have y3 : (⟨#[67, 108, 105, 101, 110, 116]⟩ : ByteArray).size + sh.size ≤ 9223372036854775807 := by show 6 + sh.size ≤ _; omega
  clear h
  refine ve_fn (args := [.agg #[.int .u64 a0, .int .u64 a1, .bool a2], .agg #[.int .u64 b0, .int .u64 b1, .bool b2], .agg #[.int .u64 c0, .int .u64 c1, .bool c2], .string seen]) Tryd.func28 rfl Tryd.ntmps28 rfl (good (Γ := fun W => G W) (fun W hb => G_below hb hG)) ?_
  repeat' (first | refine rbt ?_ | refine rbf ?_ | refine wn ?_ | refine wq ?_ | refine wc_plain ?_ | refine wc_draw ?_ | refine rZ ?_ | refine rD ?_ | refine r8 ?_ | refine r4 ?_ | refine r3 ?_ | refine r1 ?_ | refine r2 ?_ | refine r5 ?_ | refine r6 ?_ | refine r7 ?_ | refine r9 ?_ | refine rA ?_ | refine rE ?_ | refine rC ?_ | refine rB ?_ | refine rG ?_ | refine rH ?_ | refine rI ?_ | refine rJ ?_ | refine rcb ?_ | refine rcp (Pre := impl_PutPoint.f _ _ _ _ = some _) (fun hp_ w_ hΓ => impl_PutPoint.calls _ _ _ _ _ w_ (by first | exact hΓ | exact hΓ.z) hp_) ?_ | refine rcp (Pre := impl_Extract.f _ _ = some _) (fun hp_ w_ hΓ => impl_Extract.calls _ _ _ w_ hΓ.r hp_) ?_ | refine rcp (Pre := impl_Sha256.f _ = some _) (fun hp_ w_ hΓ => impl_Sha256.calls _ _ w_ hΓ.r hp_) ?_ | refine rcp (Pre := impl_Expand.f _ _ _ = some (_, _)) (fun hp_ w_ hΓ => impl_Expand.calls _ _ _ _ _ w_ hΓ.r hp_) ?_ | refine wc_loop 4 ?_ | refine wl_succ ?_ | refine wb ?_ | refine wk ?_ | refine we ?_ | exact wt | refine wr ?_ | refine rr1 ?_ | refine rr2 ?_ | exact fr | exact fe | refine wTs ?_ | refine wFs ?_ | refine rof ?_ | refine rof0 ?_)
end Go.Proofs.YtoejhekppfgmpaaDoor.Ag
end
