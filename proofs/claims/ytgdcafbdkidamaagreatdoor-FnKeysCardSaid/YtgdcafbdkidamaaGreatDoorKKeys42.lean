/- What the proof of FnKeys leans on, part 42: cut out of the texts of this claim's making by a program (wip/tools/pack.py). -/
import Derived.Test.YtgdcafbdkidamaaGreatDoorKKeys5
import Derived.Test.YtgdcafbdkidamaaGreatDoorKKeys8
import Derived.Test.YtgdcafbdkidamaaGreatDoorKKeys13
import Derived.Test.YtgdcafbdkidamaaGreatDoorKKeys24
import Derived.Test.YtgdcafbdkidamaaGreatDoorKKeys27
import Derived.Test.YtgdcafbdkidamaaGreatDoorKKeys28
import Derived.Test.YtgdcafbdkidamaaGreatDoorKKeys35
import Derived.Test.YtgdcafbdkidamaaGreatDoorKKeys37
import Derived.Test.YtgdcafbdkidamaaGreatDoorKKeys38
import Derived.Test.YtgdcafbdkidamaaGreatDoorKKeys39
import Derived.Test.YtgdcafbdkidamaaGreatDoorKKeys41
import Derived.KernelRfl
import Derived.OpenShut
section
namespace Go.Proofs.YtgdcafbdkidamaaGreatDoor.VaKeys
open Go Go.RowKit Go.Proofs.YtgdcafbdkidamaaGreatDoorW.PrintWords Go.Proofs.YtgdcafbdkidamaaGreatDoorW.PrintLast Go.Proofs.YtgdcafbdkidamaaGreatDoorW.PrintMore Go.Proofs.YtgdcafbdkidamaaGreatDoor.Ve Go.Proofs.YtgdcafbdkidamaaGreatDoor.VeT Go.Proofs.YtgdcafbdkidamaaGreatDoor.VeE Go.Proofs.YtgdcafbdkidamaaGreatDoor.G3 Go.Proofs.YtgdcafbdkidamaaGreatDoor.B Go.Proofs.YtgdcafbdkidamaaGreatDoor.C Go.Proofs.YtgdcafbdkidamaaGreatDoor.DK Go.Proofs.YtgdcafbdkidamaaGreatDoor.Ag Go.Proofs.YtgdcafbdkidamaaGreatDoor.Agp Go.Proofs.YtgdcafbdkidamaaGreatDoor.Pure Go.Proofs.YtgdcafbdkidamaaGreatDoor.D
open EC Fp Grp Vi
set_option linter.unusedVariables false
set_option linter.unusedSimpArgs false
theorem eqK (d : Nat) (w : World) (a b c : ByteArray) :
    (Op.equalIn (d + 2) 71 (.agg #[.string a, .string b, .string c]) (.agg #[.string a, .string b, .string c])).run Tryz.prog w = .ok (a.toList == a.toList && (b.toList == b.toList && (c.toList == c.toList))) w := by
  refine eqA_of Tryz.underlying71 (by kernel_rfl) ?_
  refine eqf_cons (by rfl) (by go_simp; rfl) (by go_simp; rfl) (by go_simp) ?_
  refine eqf_cons (by rfl) (by go_simp; rfl) (by go_simp; rfl) (by go_simp) ?_
  exact eqf_last (by rfl) (by go_simp; rfl) (by go_simp; rfl) (by go_simp)
theorem eq_ks {x y : Operand} {a b c : ByteArray} (w : World) : Sem.run Tryz.prog (do eqGuard .eql 71 x y (.agg #[.string a, .string b, .string c]) (.agg #[.string a, .string b, .string c]); binOp .eql 71 (.agg #[.string a, .string b, .string c]) (.agg #[.string a, .string b, .string c])) w = .ok (.bool true) w := by
  have hg : Tryz.prog.eqGuardType Tryz.prog.depth 71 = false := by kernel_rfl
  have h := eqK 9998 w a b c
  simp [eqGuard, binOp, Op.equal, Op.maxDepth, hg, h]
set_option maxRecDepth 100000 in
set_option maxHeartbeats 20000000 in
theorem laws_FnKeys.calls (A0 : Option Addr) (c0 : Nat) (l0 : List Int) (A1 : Option Addr) (c1 : Nat) (l1 : List Int) (w : World) (hG : G w) (hr0 : Kd.C (Kd.int .u8) w A0 l0.length l0) (hc0 : l0.length ≤ c0) (hr1 : Kd.C (Kd.int .u8) w A1 l1.length l1) (hc1 : l1.length ≤ c1) :
    Calls Tryz.prog 9 #[.slice A0 l0.length c0, .slice A1 l1.length c1] w fun e w' => e = .returned (.bool true) ∧ Below w.heap.size w w' := by
  refine ve_fn (args := [.slice A0 l0.length c0, .slice A1 l1.length c1]) Tryz.func9 rfl Tryz.ntmps9 rfl (good (Γ := fun W => G W ∧ Kd.C (Kd.int .u8) W A0 l0.length l0 ∧ Kd.C (Kd.int .u8) W A1 l1.length l1) (fun W hb => ⟨G_below hb hG, Kd.C_below hr0 hb, Kd.C_below hr1 hb⟩)) ?_
  clear hG hr0 hr1
  by_cases hl : (l0.length : Int) > 1048576
  · repeat' (first | refine rbt ?_ | refine rbf ?_ | refine wn ?_ | refine wq ?_ | refine wc_plain ?_ | refine wc_draw ?_ | refine rZ ?_ | refine rD ?_ | refine ve8 ?_ | refine ve4 ?_ | refine ve3 ?_ | refine ve1 ?_ | refine ve2 ?_ | refine ve5 ?_ | refine ve6 ?_ | refine ve7 ?_ | refine ve9 ?_ | refine rA ?_ | refine rE ?_ | refine rC ?_ | refine rB ?_ | refine rG ?_ | refine rH ?_ | refine rI ?_ | refine rJ ?_ | refine rcb ?_ | refine wb ?_ | refine wk ?_ | refine we ?_ | exact wt | refine wr ?_ | refine rr1 ?_ | refine rr2 ?_ | exact fr | exact fe | refine wTs ?_ | refine wFs ?_ | refine rof ?_ | refine rof0 ?_)
  by_cases hm : (l1.length : Int) > 1048576
  · repeat' (first | refine rbt ?_ | refine rbf ?_ | refine wn ?_ | refine wq ?_ | refine wc_plain ?_ | refine wc_draw ?_ | refine rZ ?_ | refine rD ?_ | refine ve8 ?_ | refine ve4 ?_ | refine ve3 ?_ | refine ve1 ?_ | refine ve2 ?_ | refine ve5 ?_ | refine ve6 ?_ | refine ve7 ?_ | refine ve9 ?_ | refine rA ?_ | refine rE ?_ | refine rC ?_ | refine rB ?_ | refine rG ?_ | refine rH ?_ | refine rI ?_ | refine rJ ?_ | refine rcb ?_ | refine wb ?_ | refine wk ?_ | refine we ?_ | exact wt | refine wr ?_ | refine rr1 ?_ | refine rr2 ?_ | exact fr | exact fe | refine wTs ?_ | refine wFs ?_ | refine rof ?_ | refine rof0 ?_)
  obtain ⟨K1, m, s, t, d1, hs, ht⟩ := Draw.drawDK l0 (by omega)
  obtain ⟨K2, x1, y1, i1, x2, y2, i2, x3, y3, i3, sn, d2, pa, hsn⟩ := Draw.drawAgree l0 (by omega)
  obtain ⟨x, d3, x0, x0'⟩ := Draw.wKey l1 0 (by omega) (by omega) (k := 20) (by omega)
  obtain ⟨y, d4, y0, y0'⟩ := Draw.wKey l1 4 (by omega) (by omega) (k := 20) (by omega)
  have hD1 : ∀ w, Kd.C (Kd.int .u8) w A0 l0.length l0 → Calls Tryz.prog 37 #[.slice A0 l0.length c0] w _ := fun w h => spec_DrawDeriveKey.calls K1 A0 c0 l0 m s t w h hc0 (d1 K1 (Nat.le_refl _))
  have hD2 : ∀ w, Kd.C (Kd.int .u8) w A0 l0.length l0 → Calls Tryz.prog 41 #[.slice A0 l0.length c0] w _ := fun w h => spec_DrawAgree.calls K2 A0 c0 l0 x1 y1 i1 x2 y2 i2 x3 y3 i3 sn w h hc0 (d2 K2 (Nat.le_refl _))
  have hD3 : ∀ w, Kd.C (Kd.int .u8) w A1 l1.length l1 → Calls Tryz.prog 40 #[.slice A1 l1.length c1, .int .i64 0] w _ := fun w h => drb (laws_wKey.calls 20 A1 c1 l1 0 x w h hc1 d3)
  have hD4 : ∀ w, Kd.C (Kd.int .u8) w A1 l1.length l1 → Calls Tryz.prog 40 #[.slice A1 l1.length c1, .int .i64 4] w _ := fun w h => drb (laws_wKey.calls 20 A1 c1 l1 4 y w h hc1 d4)
  have hr := Sl.dk_range m s t
  obtain ⟨⟨v, c⟩, hv⟩ : ∃ q, dk m s t = q := ⟨_, rfl⟩
  rw [hv] at hr
  have hK1 : ∀ w, Calls Tryz.prog 38 #[.int .i64 m, .string s, .string t] w _ := fun w => spec_DeriveKey.calls 0 m s t v c w (by unfold spec_DeriveKey.f; rw [hv])
  have hK2 : ∀ w, G w → Calls Tryz.prog 39 #[.int .i64 m, .string s, .string t] w _ := fun w hG => impl_DeriveKey.calls m s t v c w hG.r (by unfold impl_DeriveKey.f; rw [if_pos (by omega), if_pos (by omega), hv])
  have hB : ∀ w, Calls Tryz.prog 42 #[] w _ := fun w => impl_Base.calls 1 509478702933351334 false w rfl
  have hT : ∀ (e : Int) (P : Pt), Cv P → 1 ≤ e → e < 2305843010818082053 → ∀ w, G w → Calls Tryz.prog 30 #[.int .u64 e, .agg #[.int .u64 (enc P).1, .int .u64 (enc P).2.1, .bool (enc P).2.2]] w fun e_ w' => e_ = .returned (.agg #[.int .u64 (enc (sm' e.toNat P)).1, .int .u64 (enc (sm' e.toNat P)).2.1, .bool (enc (sm' e.toNat P)).2.2]) ∧ Below w.heap.size w w' := fun e P hP h0 h1 w hG => impl_Times.calls 1000 e (enc P).1 (enc P).2.1 (enc P).2.2 (enc (sm' e.toNat P)).1 (enc (sm' e.toNat P)).2.1 (enc (sm' e.toNat P)).2.2 w hG.z (times_impl P hP e (by omega) (by omega) (by omega))
  have be : enc base = (1, 509478702933351334, false) := Draw.base_enc.symm
  have cx := cv_sm cv_base x.toNat
  have cy := cv_sm cv_base y.toNat
  have hPx := hT x base cv_base x0 x0'
  have hPy := hT y base cv_base y0 y0'
  have hPxy := hT x (sm' y.toNat base) cy x0 x0'
  have hPyx := hT y (sm' x.toNat base) cx y0 y0'
  have hSp : ∀ w, Calls Tryz.prog 26 #[.int .u64 x, .agg #[.int .u64 (enc (sm' y.toNat base)).1, .int .u64 (enc (sm' y.toNat base)).2.1, .bool (enc (sm' y.toNat base)).2.2]] w fun e_ w' => e_ = .returned (.agg #[.int .u64 (enc (sm' x.toNat (sm' y.toNat base))).1, .int .u64 (enc (sm' x.toNat (sm' y.toNat base))).2.1, .bool (enc (sm' x.toNat (sm' y.toNat base))).2.2]) ∧ Below w.heap.size w w' := fun w => spec_Times.calls 1000 x _ _ _ (enc (sm' x.toNat (sm' y.toNat base))).1 (enc (sm' x.toNat (sm' y.toNat base))).2.1 (enc (sm' x.toNat (sm' y.toNat base))).2.2 w (times_spec (sm' y.toNat base) cy x (by omega) (by omega) (by omega))
  have com : sm' y.toNat (sm' x.toNat base) = sm' x.toNat (sm' y.toNat base) := by rw [sm_mul cv_base, sm_mul cv_base, Nat.mul_comm]
  rw [com] at hPyx
  rw [be] at hPx hPy
  dsimp only at hPx hPy
  have r2 := Draw.enc_range (sm' y.toNat base)
  have r3 := Draw.enc_range (sm' x.toNat (sm' y.toNat base))
  generalize enc (sm' x.toNat (sm' y.toNat base)) = P3 at *
  generalize enc (sm' x.toNat base) = P1 at *
  generalize enc (sm' y.toNat base) = P2 at *
  obtain ⟨a1, a2, a3⟩ := P1
  obtain ⟨b1, b2, b3⟩ := P2
  obtain ⟨g1, g2, g3⟩ := P3
  dsimp only at *
  obtain ⟨q1, q2, q3, ⟨z1, z2, z3⟩, f1, f2⟩ := agree_same g1 g2 g3 b1 b2 b3 x3 y3 i3 sn r3.1 r3.2 r2.1 r2.2 ⟨pa.x0, pa.x1⟩ ⟨pa.y0, pa.y1⟩ (by omega)
  have hA1 : ∀ w, Calls Tryz.prog 44 #[.agg #[.int .u64 g1, .int .u64 g2, .bool g3], .agg #[.int .u64 b1, .int .u64 b2, .bool b3], .agg #[.int .u64 x3, .int .u64 y3, .bool i3], .string sn] w _ := fun w => spec_Agree.calls 2000 g1 g2 g3 b1 b2 b3 x3 y3 i3 sn q1 q2 q3 w f1
  have hA2 : ∀ w, G w → Calls Tryz.prog 43 #[.agg #[.int .u64 g1, .int .u64 g2, .bool g3], .agg #[.int .u64 b1, .int .u64 b2, .bool b3], .agg #[.int .u64 x3, .int .u64 y3, .bool i3], .string sn] w _ := fun w hG => impl_Agree.calls g1 g2 g3 b1 b2 b3 x3 y3 i3 sn q1 q2 q3 w hG f2
  have w1 : (v != v) = false := by simp
  have w2 : (c != c) = false := by simp
  have w3 : ((q1.size : Int) == 32) = true := by rw [beq_iff_eq]; omega
  have w4 : ((q2.size : Int) == 32) = true := by rw [beq_iff_eq]; omega
  have w5 : ((q3.size : Int) == 32) = true := by rw [beq_iff_eq]; omega
  clear hT be cx cy com r2 r3 f1 f2 z1 z2 z3 pa hv d1 d2 d3 d4 x0 x0' y0 y0' hs ht hsn
  by_cases hc : c = 0
  · have v1 : (v == 0) = false := by rw [beq_eq_false_iff_ne]; have := hr.2.2 hc; omega
    have v2 : decide (v ≥ 2305843010818082053) = false := decide_eq_false (by have := hr.2.1; omega)
    have v3 : (c == 0) = true := by rw [beq_iff_eq]; exact hc
    clear hr hc
    repeat' (first | refine rbt ?_ | refine rbf ?_ | refine wn ?_ | refine wq ?_ | refine wc_plain ?_ | refine wc_draw ?_ | refine rZ ?_ | refine rD ?_ | refine ve8 ?_ | refine ve4 ?_ | refine ve3 ?_ | refine ve1 ?_ | refine ve2 ?_ | refine ve5 ?_ | refine ve6 ?_ | refine ve7 ?_ | refine ve9 ?_ | refine rA ?_ | refine rE ?_ | refine rC ?_ | refine rB ?_ | refine rG ?_ | refine rH ?_ | refine rI ?_ | refine rJ ?_ | refine rcb ?_ | refine rc (fun w_ hΓ => hD1 w_ hΓ.2.1) ?_ | refine rc (fun w_ hΓ => hD2 w_ hΓ.2.1) ?_ | refine rc (fun w_ hΓ => hD3 w_ hΓ.2.2) ?_ | refine rc (fun w_ hΓ => hD4 w_ hΓ.2.2) ?_ | refine rc (fun w_ hΓ => hK1 w_) ?_ | refine rc (fun w_ hΓ => hK2 w_ hΓ.1) ?_ | refine rc (fun w_ hΓ => hB w_) ?_ | refine rc (fun w_ hΓ => hPx w_ hΓ.1) ?_ | refine rc (fun w_ hΓ => hPy w_ hΓ.1) ?_ | refine rc (fun w_ hΓ => hPxy w_ hΓ.1) ?_ | refine rc (fun w_ hΓ => hPyx w_ hΓ.1) ?_ | refine rc (fun w_ hΓ => hSp w_) ?_ | refine rc (fun w_ hΓ => hA1 w_) ?_ | refine rc (fun w_ hΓ => hA2 w_ hΓ.1) ?_ | refine req (fun w_ => eq_ks w_) ?_ | refine rofu ?_ | refine wb ?_ | refine wk ?_ | refine we ?_ | exact wt | refine wr ?_ | refine rr1 ?_ | refine rr2 ?_ | exact fr | exact fe | refine wTs ?_ | refine wFs ?_ | refine rof ?_ | refine rof0 ?_)
  · have v3 : (c == 0) = false := by rw [beq_eq_false_iff_ne]; exact hc
    clear hr hc
    repeat' (first | refine rbt ?_ | refine rbf ?_ | refine wn ?_ | refine wq ?_ | refine wc_plain ?_ | refine wc_draw ?_ | refine rZ ?_ | refine rD ?_ | refine ve8 ?_ | refine ve4 ?_ | refine ve3 ?_ | refine ve1 ?_ | refine ve2 ?_ | refine ve5 ?_ | refine ve6 ?_ | refine ve7 ?_ | refine ve9 ?_ | refine rA ?_ | refine rE ?_ | refine rC ?_ | refine rB ?_ | refine rG ?_ | refine rH ?_ | refine rI ?_ | refine rJ ?_ | refine rcb ?_ | refine rc (fun w_ hΓ => hD1 w_ hΓ.2.1) ?_ | refine rc (fun w_ hΓ => hD2 w_ hΓ.2.1) ?_ | refine rc (fun w_ hΓ => hD3 w_ hΓ.2.2) ?_ | refine rc (fun w_ hΓ => hD4 w_ hΓ.2.2) ?_ | refine rc (fun w_ hΓ => hK1 w_) ?_ | refine rc (fun w_ hΓ => hK2 w_ hΓ.1) ?_ | refine rc (fun w_ hΓ => hB w_) ?_ | refine rc (fun w_ hΓ => hPx w_ hΓ.1) ?_ | refine rc (fun w_ hΓ => hPy w_ hΓ.1) ?_ | refine rc (fun w_ hΓ => hPxy w_ hΓ.1) ?_ | refine rc (fun w_ hΓ => hPyx w_ hΓ.1) ?_ | refine rc (fun w_ hΓ => hSp w_) ?_ | refine rc (fun w_ hΓ => hA1 w_) ?_ | refine rc (fun w_ hΓ => hA2 w_ hΓ.1) ?_ | refine req (fun w_ => eq_ks w_) ?_ | refine rofu ?_ | refine wb ?_ | refine wk ?_ | refine we ?_ | exact wt | refine wr ?_ | refine rr1 ?_ | refine rr2 ?_ | exact fr | exact fe | refine wTs ?_ | refine wFs ?_ | refine rof ?_ | refine rof0 ?_)
def laws_FnKeys.Pure : Prop := True
theorem laws_FnKeys.walk (_P : laws_FnKeys.Pure) (a0 : Option Addr) (len0 cap0 : Nat) (z0 : List Int) (a1 : Option Addr) (len1 cap1 : Nat) (z1 : List Int) (w : World) (hG : G w)
    (w0 : (a0 = none ∧ len0 = 0 ∧ cap0 = 0 ∧ z0 = []) ∨ ∃ x, a0 = some x ∧ len0 ≤ cap0 ∧ cap0 ≤ maxLen ∧ z0.length = cap0 ∧ (∀ i, i < z0.length → w.cell? (x.add i) = some (.int .u8 (z0.getD i 0))) ∧ ∀ n ∈ z0, (Lit.int .u8 n).wf = true) (y0 : len0 * 1 ≤ 140737488351232)
    (w1 : (a1 = none ∧ len1 = 0 ∧ cap1 = 0 ∧ z1 = []) ∨ ∃ x, a1 = some x ∧ len1 ≤ cap1 ∧ cap1 ≤ maxLen ∧ z1.length = cap1 ∧ (∀ i, i < z1.length → w.cell? (x.add i) = some (.int .u8 (z1.getD i 0))) ∧ ∀ n ∈ z1, (Lit.int .u8 n).wf = true) (y1 : len1 * 1 ≤ 140737488351232) :
    Calls Tryz.prog 9 #[.slice a0 len0 cap0, .slice a1 len1 cap1] w fun e w' => e = .returned (.bool true) ∧ Below w.heap.size w w' := by
  obtain ⟨l0, rfl, hr0, hm0, hw0, hc0⟩ := ReadsInt.ofRowC w0
  obtain ⟨l1, rfl, hr1, hm1, hw1, hc1⟩ := ReadsInt.ofRowC w1
  exact laws_FnKeys.calls _ _ l0 _ _ l1 w hG (Kd.C_of_reads (d := (0 : Int)) (h1 := fun _ => rfl) hr0) hc0 (Kd.C_of_reads (d := (0 : Int)) (h1 := fun _ => rfl) hr1) hc1
end Go.Proofs.YtgdcafbdkidamaaGreatDoor.VaKeys
namespace Go.Proofs.YtgdcafbdkidamaaGreatDoor.Pure
theorem FnKeys : VaKeys.laws_FnKeys.Pure := trivial
end Go.Proofs.YtgdcafbdkidamaaGreatDoor.Pure
end
