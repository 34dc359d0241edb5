/- What the proof of FnExactDeriveKey leans on, part 27: cut out of the texts of this claim's making by a program (wip/tools/pack.py). -/
import Derived.Test.YtoejhekppfgmpaaDoorKDeriveKey4
import Derived.Test.YtoejhekppfgmpaaDoorKDeriveKey8
import Derived.Test.YtoejhekppfgmpaaDoorKDeriveKey9
import Derived.Test.YtoejhekppfgmpaaDoorKDeriveKey24
import Derived.Test.YtoejhekppfgmpaaDoorKDeriveKey25
import Derived.Test.YtoejhekppfgmpaaDoorKDeriveKey26
import Derived.KernelRfl
import Derived.OpenShut
import Derived.WalkKit
section
namespace Go.Proofs.YtoejhekppfgmpaaDoor.VaDeriveKey
open Go Go.RowKit Go.Proofs.YtoejhekppfgmpaaDoorW.PrintWords Go.Proofs.YtoejhekppfgmpaaDoorW.PrintLast Go.Proofs.YtoejhekppfgmpaaDoorW.PrintMore Go.Proofs.YtoejhekppfgmpaaDoor.Ve Go.Proofs.YtoejhekppfgmpaaDoor.VeT Go.Proofs.YtoejhekppfgmpaaDoor.G2 Go.Proofs.YtoejhekppfgmpaaDoor.B Go.Proofs.YtoejhekppfgmpaaDoor.C Go.Proofs.YtoejhekppfgmpaaDoor.S5 Go.Proofs.YtoejhekppfgmpaaDoor.T5 Go.Proofs.YtoejhekppfgmpaaDoor.T7 Go.Proofs.YtoejhekppfgmpaaDoor.DK Go.Proofs.YtoejhekppfgmpaaDoor.Hp
set_option linter.unusedVariables false
set_option linter.unusedSimpArgs false
theorem dk_go (m : Int) (seed info : ByteArray) (h0 : 0 ≤ m) (h2 : m ≤ 2) (h3 : seed.size = 32) (h4 : info.size ≤ 60000) : ∀ (d i k : Nat), i + d = 256 → 701000 + d < k → spec_DeriveKey.l0 k m seed info (i : Int) = some (dkF m seed info d i)
  | 0, i, k, hi, hk => by
    obtain ⟨k, rfl⟩ : ∃ j, k = j + 1 := ⟨k - 1, by omega⟩
    rw [spec_DeriveKey.l0, if_neg (by omega)]; rfl
  | d + 1, i, k, hi, hk => by
    obtain ⟨k, rfl⟩ : ∃ j, k = j + 1 := ⟨k - 1, by omega⟩
    have e1 : spec_l5Sized.f info = some (szd info) := by unfold spec_l5Sized.f; rw [if_pos (by omega)]
    have e2 : spec_l5Tag.f (⟨#[68, 101, 114, 105, 118, 101, 75, 101, 121, 80, 97, 105, 114]⟩ : ByteArray) m = some (tagV dkp m) := by unfold spec_l5Tag.f; rw [if_pos h0, if_pos h2, if_pos (by decide)]; rfl
    have e3 : (i : Int) % 256 = i := by omega
    have e4 : (strOfNums [(i : Int)]).size = 1 := rfl
    have e5 : (seed ++ szd info).size = 34 + info.size := by rw [app_size, szd_size, h3]; omega
    rw [spec_DeriveKey.l0, if_pos (by omega), e1, Option.bind_some, if_pos (by rw [szd_size]; omega), Option.bind_some, e3, if_pos (by rw [e5, e4]; omega), e2, Option.bind_some, hts_spec _ _ (by omega), Option.bind_some, w64 (by omega) (by omega)]
    have ih := dk_go m seed info h0 h2 h3 h4 d (i + 1) k (by omega) (by omega)
    rw [show ((i + 1 : Nat) : Int) = (i : Int) + 1 by omega] at ih
    show (if kd m seed info i = 0 then _ else some (kd m seed info i, 0)) = some (if kd m seed info i = 0 then dkF m seed info d (i + 1) else (kd m seed info i, 0))
    by_cases hz : kd m seed info i = 0
    · rw [if_pos hz, if_pos hz]; exact ih
    · rw [if_neg hz, if_neg hz]
theorem dk_spec (m : Int) (seed info : ByteArray) {k : Nat} (hk : 702000 ≤ k) : spec_DeriveKey.f k m seed info = some (dk m seed info) := by
  obtain ⟨k, rfl⟩ : ∃ j, k = j + 1 := ⟨k - 1, by omega⟩
  unfold spec_DeriveKey.f dk
  have em : spec_l5Mode.f m = some (decide (0 ≤ m ∧ m ≤ 2)) := by
    unfold spec_l5Mode.f
    by_cases h : m ≥ 0
    · rw [if_pos h]; congr 1; exact decide_eq_decide.2 (by omega)
    · rw [if_neg h]; congr 1; exact (decide_eq_false (by omega)).symm
  rw [em, Option.bind_some]
  by_cases hm : 0 ≤ m ∧ m ≤ 2
  · rw [if_pos (decide_eq_true hm)]
    by_cases h3 : seed.size = 32
    · rw [if_pos (by omega)]
      by_cases h4 : info.size ≤ 60000
      · rw [if_neg (by omega), show decide ((info.size : Int) > 60000) = false from decide_eq_false (by omega), spec_DeriveKey.j0, if_neg (by decide)]
        exact dk_go m seed info hm.1 hm.2 h3 h4 256 0 k (by omega) (by omega)
      · rw [if_pos (by omega), show decide ((info.size : Int) > 60000) = true from decide_eq_true (by omega), spec_DeriveKey.j0, if_pos rfl]
    · rw [if_neg (by omega), if_pos (by omega), spec_DeriveKey.j0, if_pos rfl]
  · rw [if_neg (by simpa using hm), if_pos (by omega), spec_DeriveKey.j0, if_pos rfl]
def laws_FnExactDeriveKey.f (m : Int) (a b : ByteArray) : Option Bool := some true
set_option maxRecDepth 100000 in
set_option maxHeartbeats 8000000 in
theorem laws_FnExactDeriveKey.calls (m : Int) (a b : ByteArray) (r : Bool) (w : World) (hG : G w) (h : laws_FnExactDeriveKey.f m a b = some r) :
    Calls Tryd.prog 8 #[.int .i64 m, .string a, .string b] w fun e w' => e = .returned (.bool r) ∧ Below w.heap.size w w' := by
  obtain rfl := Option.some.inj h
  clear h
  refine ve_fn (args := [.int .i64 m, .string a, .string b]) Tryd.func8 rfl Tryd.ntmps8 rfl (good (Γ := fun W => G W) (fun W hb => G_below hb hG)) ?_
  by_cases ha : (a.size : Int) > 1048576
  · repeat' (first | refine rbt ?_ | refine rbf ?_ | refine wn ?_ | refine wq ?_ | refine wc_plain ?_ | refine wc_draw ?_ | refine rZ ?_ | refine rD ?_ | refine r8 ?_ | refine r4 ?_ | refine r3 ?_ | refine r1 ?_ | refine r2 ?_ | refine r5 ?_ | refine r6 ?_ | refine r7 ?_ | refine r9 ?_ | refine rA ?_ | refine rE ?_ | refine rC ?_ | refine rB ?_ | refine rG ?_ | refine rH ?_ | refine rI ?_ | refine rJ ?_ | refine rcb ?_ | refine wb ?_ | refine wk ?_ | refine we ?_ | exact wt | refine wr ?_ | refine rr1 ?_ | refine rr2 ?_ | exact fr | exact fe | refine wTs ?_ | refine wFs ?_ | refine rof ?_ | refine rof0 ?_)
  · by_cases hb : (b.size : Int) > 1048576
    · repeat' (first | refine rbt ?_ | refine rbf ?_ | refine wn ?_ | refine wq ?_ | refine wc_plain ?_ | refine wc_draw ?_ | refine rZ ?_ | refine rD ?_ | refine r8 ?_ | refine r4 ?_ | refine r3 ?_ | refine r1 ?_ | refine r2 ?_ | refine r5 ?_ | refine r6 ?_ | refine r7 ?_ | refine r9 ?_ | refine rA ?_ | refine rE ?_ | refine rC ?_ | refine rB ?_ | refine rG ?_ | refine rH ?_ | refine rI ?_ | refine rJ ?_ | refine rcb ?_ | refine wb ?_ | refine wk ?_ | refine we ?_ | exact wt | refine wr ?_ | refine rr1 ?_ | refine rr2 ?_ | exact fr | exact fe | refine wTs ?_ | refine wFs ?_ | refine rof ?_ | refine rof0 ?_)
    · obtain ⟨q1, q2, e0⟩ : ∃ q1 q2, dk m a b = (q1, q2) := ⟨_, _, rfl⟩
      have e1 : spec_DeriveKey.f 702000 m a b = some (q1, q2) := by rw [dk_spec m a b (Nat.le_refl _), e0]
      have e2 : impl_DeriveKey.f m a b = some (q1, q2) := by unfold impl_DeriveKey.f; rw [if_pos (by omega), if_pos (by omega), e0]
      clear e0
      repeat' (first | refine rbt ?_ | refine rbf ?_ | refine wn ?_ | refine wq ?_ | refine wc_plain ?_ | refine wc_draw ?_ | refine rZ ?_ | refine rD ?_ | refine r8 ?_ | refine r4 ?_ | refine r3 ?_ | refine r1 ?_ | refine r2 ?_ | refine r5 ?_ | refine r6 ?_ | refine r7 ?_ | refine r9 ?_ | refine rA ?_ | refine rE ?_ | refine rC ?_ | refine rB ?_ | refine rG ?_ | refine rH ?_ | refine rI ?_ | refine rJ ?_ | refine rcb ?_ | refine rcp (Pre := spec_DeriveKey.f _ _ _ _ = some (_, _)) (fun hp_ w_ hΓ => spec_DeriveKey.calls _ _ _ _ _ _ w_ hp_) ?_ | refine rcp (Pre := impl_DeriveKey.f _ _ _ = some (_, _)) (fun hp_ w_ hΓ => impl_DeriveKey.calls _ _ _ _ _ w_ (by first | exact hΓ | exact hΓ.1 | exact hΓ.z | exact hΓ.r | exact hΓ.1.z | exact hΓ.1.r) hp_) ?_ | refine wb ?_ | refine wk ?_ | refine we ?_ | exact wt | refine wr ?_ | refine rr1 ?_ | refine rr2 ?_ | exact fr | exact fe | refine wTs ?_ | refine wFs ?_ | refine rof ?_ | refine rof0 ?_)
end Go.Proofs.YtoejhekppfgmpaaDoor.VaDeriveKey
namespace Go.Proofs.YtoejhekppfgmpaaDoor.Pure
open Go Go.RowKit Go.Proofs.YtoejhekppfgmpaaDoor.VaDeriveKey
theorem FnExactDeriveKey (m : Int) (a b : ByteArray) (_h0 : (Lit.int .i64 m).wf = true) (_h1 : a.size ≤ 140737488351232) (_h2 : b.size ≤ 140737488351232) : ∃ _k : Nat, laws_FnExactDeriveKey.f m a b = some true := ⟨0, rfl⟩
end Go.Proofs.YtoejhekppfgmpaaDoor.Pure
end
