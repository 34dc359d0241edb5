/- What the proof of FnGroup leans on, part 20: cut out of the texts of this claim's making by a program (wip/tools/pack.py). -/
import Derived.Test.YtoejhekppfgmpaaDoorKGroup6
import Derived.Test.YtoejhekppfgmpaaDoorKGroup10
import Derived.Test.YtoejhekppfgmpaaDoorKGroup11
import Derived.Test.YtoejhekppfgmpaaDoorKGroup12
import Derived.Test.YtoejhekppfgmpaaDoorKGroup13
import Derived.Test.YtoejhekppfgmpaaDoorKGroup19
import Derived.Deep.AppendLies
import Derived.Deep.RegionHeld3
import Derived.Lib.ConvBytes
import Derived.Lib.FrozenHead2
import Derived.Lib.Hide
import Derived.LoopTactic
import Derived.Outline
section
namespace Go.Proofs.YtoejhekppfgmpaaDoor.Kp
open Go Go.RowKit Go.Shelf Go.Proofs.YtoejhekppfgmpaaDoorW.PrintWords Go.Proofs.YtoejhekppfgmpaaDoorW.PrintLast Go.Proofs.YtoejhekppfgmpaaDoorW.PrintMore Go.Proofs.YtoejhekppfgmpaaDoor.K0 Go.Proofs.YtoejhekppfgmpaaDoor.K2 Go.Proofs.YtoejhekppfgmpaaDoor.K3 Go.Proofs.YtoejhekppfgmpaaDoor.K4 Go.Proofs.YtoejhekppfgmpaaDoor.K5 Go.Proofs.YtoejhekppfgmpaaDoor.B
set_option linter.unusedVariables false
set_option linter.unusedSimpArgs false
/-- a slice of bytes in a row of the call's own, whatever the row's mark, so none of the cells behind the elements is frozen -/
def OwnM (w : World) (B : Nat) (v : Value) (xs : List Int) : Prop :=
  ∃ g cap cur fz, v = .slice (some ⟨g, 0, none⟩) xs.length cap ∧ B ≤ g ∧ w.heap[g]? = some (.cells cur 5 fz) ∧ (∀ j, xs.length ≤ j → j < cap → ¬ (fz.1 ≤ j ∧ j < fz.2)) ∧ xs.length ≤ cap ∧ cap ≤ maxLen ∧ cur.size = cap ∧ cur.toList.take xs.length = c8 xs
theorem OwnM.below {w w' : World} {B : Nat} {v : Value} {xs : List Int} (h : OwnM w B v xs) (hb : Below w.heap.size w w') : OwnM w' B v xs := by
  obtain ⟨g, cap, cur, fz, h1, h2, h3, h4⟩ := h
  exact ⟨g, cap, cur, fz, h1, h2, (hb.block _ (Array.getElem?_eq_some_iff.1 h3).1).trans h3, h4⟩
theorem OwnM.cells {w : World} {B : Nat} {v : Value} {xs : List Int} (h : OwnM w B v xs) : ∃ g cap, v = .slice (some ⟨g, 0, none⟩) xs.length cap ∧ xs.length ≤ cap ∧ xs.length ≤ maxLen ∧ ∀ j, j < xs.length → w.cell? ⟨g, j, none⟩ = some (.int .u8 (rd xs j)) := by
  obtain ⟨g, cap, cur, fz, h1, h2, h3, h4, h5, h6, h7, h8⟩ := h
  refine ⟨g, cap, h1, h5, Nat.le_trans h5 h6, fun j hj => ?_⟩
  rw [cell_of_row w g j _ _ _ h3, ← Array.getElem?_toList]
  have e : (cur.toList.take xs.length)[j]? = cur.toList[j]? := by rw [List.getElem?_take, if_pos hj]
  rw [← e, h8, c8_get hj]
end Go.Proofs.YtoejhekppfgmpaaDoor.Kp
end
section
namespace Go.Proofs.YtoejhekppfgmpaaDoor.Ks
open Go Go.RowKit Go.Shelf Go.Proofs.YtoejhekppfgmpaaDoorW.PrintWords Go.Proofs.YtoejhekppfgmpaaDoorW.PrintLast Go.Proofs.YtoejhekppfgmpaaDoorW.PrintMore Go.Proofs.YtoejhekppfgmpaaDoor.K0 Go.Proofs.YtoejhekppfgmpaaDoor.K2 Go.Proofs.YtoejhekppfgmpaaDoor.K3 Go.Proofs.YtoejhekppfgmpaaDoor.K4 Go.Proofs.YtoejhekppfgmpaaDoor.K5 Go.Proofs.YtoejhekppfgmpaaDoor.Kp Go.Proofs.YtoejhekppfgmpaaDoor.B
set_option linter.unusedVariables false
set_option linter.unusedSimpArgs false
/-- the constants -/
def kk : List Int := (spec_l1K.f).getD []
/-- a slice of words that is read -/
def Rd32 (w : World) (v : Value) (n : Nat) (xs : List Int) : Prop := xs.length = n ∧ ∃ A c, v = .slice A n c ∧ n ≤ c ∧ (Kd.int .u32).C w A n xs
theorem Rd32.below {w w' : World} {v : Value} {n : Nat} {xs : List Int} (h : Rd32 w v n xs) (hb : Below w.heap.size w w') : Rd32 w' v n xs := by
  obtain ⟨h0, A, c, h1, h2, h3⟩ := h
  exact ⟨h0, A, c, h1, h2, Kd.C_below h3 hb⟩
/-- the state behind so many blocks -/
def bl (m : List Int) : Nat → List Int
  | 0 => iv8
  | j + 1 => Sx.block kk (bl m j) m (64 * j)
end Go.Proofs.YtoejhekppfgmpaaDoor.Ks
end
section
namespace Go.Proofs.YtoejhekppfgmpaaDoor.G2
open Go Go.RowKit Go.Proofs.YtoejhekppfgmpaaDoorW.PrintWords Go.Proofs.YtoejhekppfgmpaaDoorW.PrintLast Go.Proofs.YtoejhekppfgmpaaDoorW.PrintMore Go.Proofs.YtoejhekppfgmpaaDoor.K0
def G (w : World) : Prop := Rw Ks.kk w
theorem G_below {w W : World} (h : Below w.heap.size w W) (hG : G w) : G W := K3.Rw_kept hG (K2.gb_of h) (by simp)
end Go.Proofs.YtoejhekppfgmpaaDoor.G2
end
section
namespace Go.Proofs.YtoejhekppfgmpaaDoor.C
open Go.RowKit Go.Proofs.YtoejhekppfgmpaaDoor.B Go.Proofs.YtoejhekppfgmpaaDoor.H0 Go.Proofs.YtoejhekppfgmpaaDoor.G1 Go.Proofs.YtoejhekppfgmpaaDoor.F0 Go.Proofs.YtoejhekppfgmpaaDoorW.PrintWords Go.Proofs.YtoejhekppfgmpaaDoorW.PrintLast Go.Proofs.YtoejhekppfgmpaaDoorW.PrintMore Go.Proofs.YtoejhekppfgmpaaDoor.Ve Go.Proofs.YtoejhekppfgmpaaDoor.VeT Go.Proofs.YtoejhekppfgmpaaDoor.VeE
attribute [local go_sem high] field_num_fieldP   -- for this text's walks alone
attribute [local go_sem] max2_int min2_int max_two min_two max_three min_three max_four min_four   -- for this text's walks alone
set_option linter.unusedVariables false
set_option linter.unusedSimpArgs false
attribute [local go_sem high] eqA25
def impl_OnCurve.f (k : Nat) (a0_0 : Int) (a0_1 : Int) (a0_2 : Bool) : Option (Bool) := (impl_at.f k a0_0 a0_1 a0_2).bind fun bt209 => (some bt209.2.2.2)
set_option maxRecDepth 100000 in
set_option maxHeartbeats 4000000 in
theorem impl_OnCurve.calls (k : Nat) (a0_0 : Int) (a0_1 : Int) (a0_2 : Bool) (r : Bool) (w : World) (hG : G w) (h : impl_OnCurve.f k a0_0 a0_1 a0_2 = some r) :
    Calls Tryd.prog 21 #[.agg #[.int .u64 a0_0, .int .u64 a0_1, .bool a0_2]] w fun e w' => e = .returned (.bool r) ∧ Below w.heap.size w w' := by
  unfold impl_OnCurve.f at h
  repeat' (first | (rw [Option.bind_eq_some_iff] at h; obtain ⟨_, _, h⟩ := h) | (split at h) | (cases h <;> fail) | (replace h := Option.some.inj h) | (have h3_ := (Prod.mk.inj h).1; replace h := (Prod.mk.inj h).2; subst h3_) | (subst h))
  all_goals try contradiction
  all_goals refine ve_fn (args := [.agg #[.int .u64 a0_0, .int .u64 a0_1, .bool a0_2]]) Tryd.func21 rfl Tryd.ntmps21 rfl (good (Γ := fun W => G W) (fun W hb => G_below hb hG)) ?_
  all_goals repeat' (first | refine rbt ?_ | refine rbf ?_ | refine wn ?_ | refine wq ?_ | refine wc_plain ?_ | refine wc_draw ?_ | refine rZ ?_ | refine rD ?_ | refine ve8 ?_ | refine ve4 ?_ | refine ve3 ?_ | refine ve1 ?_ | refine ve2 ?_ | refine ve5 ?_ | refine ve6 ?_ | refine ve7 ?_ | refine ve9 ?_ | refine rA ?_ | refine rE ?_ | refine rC ?_ | refine rB ?_ | refine rG ?_ | refine rH ?_ | refine rI ?_ | refine rJ ?_ | refine rcb ?_ | refine rcp (Pre := impl_at.f _ _ _ _ = some (_, _, _, _)) (fun hp_ w_ hΓ => impl_at.calls _ _ _ _ _ _ _ _ w_ hΓ hp_) ?_ | refine rel (fun w_ hΓ => ld_zero (by first  |  exact hΓ.z  |  exact hΓ.1.z  |  exact hΓ.1  |  exact hΓ)) ?_  |  refine req (fun w_ => eq_pt w_) ?_  |  refine req (fun w_ => ne_pt w_) ?_  |  refine req (fun w_ => eq_num w_) ?_ | refine wb ?_ | refine wk ?_ | refine we ?_ | exact wt | refine wr ?_ | refine rr1 ?_ | refine rr2 ?_ | exact fr | exact fe | refine wTs ?_ | refine wFs ?_ | refine rof ?_ | refine rof0 ?_)

def impl_Negative.f (k : Nat) (a0_0 : Int) (a0_1 : Int) (a0_2 : Bool) : Option (Int × Int × Bool) := (impl_OnCurve.f k a0_0 a0_1 a0_2).bind fun t216 => (if t216 = true then (if (a0_0 == 0 && (a0_1 == 0 && (a0_2))) = true then (some (0, 0, true)) else ((impl_num_impl_fieldP_negative.f a0_1).bind fun t217 => (some (a0_0, t217, false)))) else (some (0, 0, true)))
set_option maxRecDepth 100000 in
set_option maxHeartbeats 4000000 in
theorem impl_Negative.calls (k : Nat) (a0_0 : Int) (a0_1 : Int) (a0_2 : Bool) (r1 : Int) (r2 : Int) (r3 : Bool) (w : World) (hG : G w) (h : impl_Negative.f k a0_0 a0_1 a0_2 = some (r1, r2, r3)) :
    Calls Tryd.prog 19 #[.agg #[.int .u64 a0_0, .int .u64 a0_1, .bool a0_2]] w fun e w' => e = .returned (.agg #[.int .u64 r1, .int .u64 r2, .bool r3]) ∧ Below w.heap.size w w' := by
  unfold impl_Negative.f at h
  repeat' (first | (rw [Option.bind_eq_some_iff] at h; obtain ⟨_, _, h⟩ := h) | (split at h) | (cases h <;> fail) | (replace h := Option.some.inj h) | (have h3_ := (Prod.mk.inj h).1; replace h := (Prod.mk.inj h).2; subst h3_) | (subst h))
  all_goals try contradiction
  all_goals refine ve_fn (args := [.agg #[.int .u64 a0_0, .int .u64 a0_1, .bool a0_2]]) Tryd.func19 rfl Tryd.ntmps19 rfl (good (Γ := fun W => G W) (fun W hb => G_below hb hG)) ?_
  all_goals repeat' (first | refine rbt ?_ | refine rbf ?_ | refine wn ?_ | refine wq ?_ | refine wc_plain ?_ | refine wc_draw ?_ | refine rZ ?_ | refine rD ?_ | refine ve8 ?_ | refine ve4 ?_ | refine ve3 ?_ | refine ve1 ?_ | refine ve2 ?_ | refine ve5 ?_ | refine ve6 ?_ | refine ve7 ?_ | refine ve9 ?_ | refine rA ?_ | refine rE ?_ | refine rC ?_ | refine rB ?_ | refine rG ?_ | refine rH ?_ | refine rI ?_ | refine rJ ?_ | refine rcb ?_ | refine rcp (Pre := impl_OnCurve.f _ _ _ _ = some _) (fun hp_ w_ hΓ => impl_OnCurve.calls _ _ _ _ _ w_ hΓ hp_) ?_ | refine rcp (Pre := impl_num_impl_fieldP_negative.f _ = some _) (fun hp_ w_ hΓ => impl_num_impl_fieldP_negative.calls _ _ w_ hp_) ?_ | refine rel (fun w_ hΓ => ld_zero (by first  |  exact hΓ.z  |  exact hΓ.1.z  |  exact hΓ.1  |  exact hΓ)) ?_  |  refine req (fun w_ => eq_pt w_) ?_  |  refine req (fun w_ => ne_pt w_) ?_  |  refine req (fun w_ => eq_num w_) ?_ | refine wb ?_ | refine wk ?_ | refine we ?_ | exact wt | refine wr ?_ | refine rr1 ?_ | refine rr2 ?_ | exact fr | exact fe | refine wTs ?_ | refine wFs ?_ | refine rof ?_ | refine rof0 ?_)

end Go.Proofs.YtoejhekppfgmpaaDoor.C
end
