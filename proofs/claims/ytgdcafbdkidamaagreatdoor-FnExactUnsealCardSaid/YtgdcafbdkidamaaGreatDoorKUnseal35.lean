/- What the proof of FnExactUnseal leans on, part 35: cut out of the texts of this claim's making by a program (wip/tools/pack.py). -/
import Derived.Test.YtgdcafbdkidamaaGreatDoorKUnseal5
import Derived.Test.YtgdcafbdkidamaaGreatDoorKUnseal8
import Derived.Test.YtgdcafbdkidamaaGreatDoorKUnseal10
import Derived.Test.YtgdcafbdkidamaaGreatDoorKUnseal11
import Derived.Test.YtgdcafbdkidamaaGreatDoorKUnseal12
import Derived.Test.YtgdcafbdkidamaaGreatDoorKUnseal13
import Derived.Test.YtgdcafbdkidamaaGreatDoorKUnseal14
import Derived.Test.YtgdcafbdkidamaaGreatDoorKUnseal20
import Derived.Test.YtgdcafbdkidamaaGreatDoorKUnseal22
import Derived.Test.YtgdcafbdkidamaaGreatDoorKUnseal26
import Derived.Test.YtgdcafbdkidamaaGreatDoorKUnseal28
import Derived.Test.YtgdcafbdkidamaaGreatDoorKUnseal29
import Derived.Test.YtgdcafbdkidamaaGreatDoorKUnseal30
import Derived.Test.YtgdcafbdkidamaaGreatDoorKUnseal31
import Derived.Test.YtgdcafbdkidamaaGreatDoorKUnseal32
import Derived.Test.YtgdcafbdkidamaaGreatDoorKUnseal34
import Derived.KernelRfl
import Derived.OpenShut
section
namespace Go.Proofs.YtgdcafbdkidamaaGreatDoor.Sdk
open Go Go.RowKit Go.Proofs.YtgdcafbdkidamaaGreatDoorW.PrintWords Go.Proofs.YtgdcafbdkidamaaGreatDoorW.PrintLast Go.Proofs.YtgdcafbdkidamaaGreatDoorW.PrintMore Go.Proofs.YtgdcafbdkidamaaGreatDoor.Ve Go.Proofs.YtgdcafbdkidamaaGreatDoor.VeT Go.Proofs.YtgdcafbdkidamaaGreatDoor.VeE Go.Proofs.YtgdcafbdkidamaaGreatDoor.B Go.Proofs.YtgdcafbdkidamaaGreatDoor.C Go.Proofs.YtgdcafbdkidamaaGreatDoor.S5 Go.Proofs.YtgdcafbdkidamaaGreatDoor.T5 Go.Proofs.YtgdcafbdkidamaaGreatDoor.T7 Go.Proofs.YtgdcafbdkidamaaGreatDoor.DK Go.Proofs.YtgdcafbdkidamaaGreatDoor.Hp
set_option linter.unusedVariables false
set_option linter.unusedSimpArgs false
abbrev tBs : TypeId := 46
abbrev tU8 : TypeId := 5
theorem cv1 (x : Int) (g : Nat) (w : World) {t : TypeId} (h : w.heap[g]? = some (.cells [.int .u8 x].toArray t (0, 0))) : (convert tBs 9 (.slice (some ⟨g, 0, none⟩) 1 1)).run Tryz.prog w = .ok (.string (strOfNums [x])) w :=
  own_string (P := Tryz.prog) (base := 0) (n := 1) (e' := t) Tryz.underlying46 Tryz.underlying5 Tryz.underlying9 (xs := [x]) ⟨rfl, .inr ⟨g, 1, _, rfl, Nat.zero_le _, h, Nat.le_refl _, by unfold maxLen; decide, rfl, rfl⟩⟩
set_option maxRecDepth 100000 in
set_option maxHeartbeats 8000000 in
theorem dk_ok (m : Int) (seed info : ByteArray) (hm0 : 0 ≤ m) (hm2 : m ≤ 2) (h3 : seed.size = 32) (h4 : info.size ≤ 60000) (w : World) :
    Calls Tryz.prog 38 #[.int .i64 m, .string seed, .string info] w fun e w' => e = .returned (.tuple #[.int .u64 (dkF m seed info 256 0).1, .int .i64 (dkF m seed info 256 0).2]) ∧ Below w.heap.size w w' := by
  have hM : ∀ w, Calls Tryz.prog 87 #[.int .i64 m] w _ := fun w => drb (spec_l5Mode.calls m true w (by unfold spec_l5Mode.f; rw [if_pos hm0]; simp [hm2]))
  have hZ : ∀ w, Calls Tryz.prog 78 #[.string info] w _ := fun w => spec_l5Sized.calls info (szd info) w (by unfold spec_l5Sized.f; rw [if_pos (by omega)])
  have hT : ∀ w, Calls Tryz.prog 89 #[.string ⟨#[68, 101, 114, 105, 118, 101, 75, 101, 121, 80, 97, 105, 114]⟩, .int .i64 m] w _ := fun w => spec_l5Tag.calls _ m (tagV dkp m) w (by unfold spec_l5Tag.f; rw [if_pos hm0, if_pos hm2, if_pos (by decide)]; rfl)
  have hH : ∀ (z : Nat) (w : World), Calls Tryz.prog 88 #[.string ((seed ++ szd info) ++ strOfNums [(z : Int)]), .string (tagV dkp m)] w fun e w' => e = .returned (.tuple #[.int .u64 (kd m seed info z), .bool (htsV ((seed ++ szd info) ++ strOfNums [(z : Int)]) (tagV dkp m)).2]) ∧ Below w.heap.size w w' :=
    fun z w => spec_HashToScalar.calls 701000 _ _ _ _ w (hts_spec _ _ (Nat.le_refl _))
  have s1 : seed.size + (szd info).size ≤ 9223372036854775807 := by rw [szd_size]; omega
  have s2 : ∀ x : Int, (seed ++ szd info).size + (strOfNums [x]).size ≤ 9223372036854775807 := fun x => by
    have e4 : (strOfNums [x]).size = 1 := rfl
    rw [app_size, szd_size, e4]; omega
  have b1 : ((seed.size : Int) != 32) = false := by rw [bne_eq_false_iff_eq]; omega
  have b2 : decide ((info.size : Int) > 60000) = false := decide_eq_false (by omega)
  refine ve_fn (args := [.int .i64 m, .string seed, .string info]) Tryz.func38 rfl Tryz.ntmps38 rfl (good (Γ := fun _ => True) (fun _ _ => trivial)) ?_
  obtain ⟨z, hz⟩ : ∃ z : Nat, z = 0 := ⟨0, rfl⟩
  obtain ⟨d, hd⟩ : ∃ d : Nat, d = 256 := ⟨256, rfl⟩
  rw [show dkF m seed info 256 0 = dkF m seed info d z by rw [hz, hd]]
  generalize szd info = si at *
  generalize tagV dkp m = tg at *
  clear hm0 hm2 h3 h4
  repeat' (first | refine rbt ?_ | refine rbf ?_ | refine wn ?_ | refine wq ?_ | refine wc_plain ?_ | refine wc_draw ?_ | refine rZ ?_ | refine rD ?_ | refine ve8 ?_ | refine ve4 ?_ | refine ve3 ?_ | refine ve1 ?_ | refine ve2 ?_ | refine ve5 ?_ | refine ve6 ?_ | refine ve7 ?_ | refine ve9 ?_ | refine rA ?_ | refine rE ?_ | refine rC ?_ | refine rB ?_ | refine rG ?_ | refine rH ?_ | refine rI ?_ | refine rJ ?_ | refine rcb ?_ | refine rc (fun w_ _ => hM w_) ?_ | refine wc_loop (d + 1) ?_ | refine wb ?_ | refine wk ?_ | refine we ?_ | exact wt | refine wr ?_ | refine rr1 ?_ | refine rr2 ?_ | exact fr | exact fe | refine wTs ?_ | refine wFs ?_ | refine rof ?_ | refine rof0 ?_)
  refine wl_inv (l := [(0, .v (.int .i64 m)), (1, .v (.string seed)), (2, .v (.string info)), (8, .v (.int .i64 (z : Int)))]) [0, 1, 2, 8] 0 ?_ (by subst hz; rfl)
  have hzd : z + d = 256 := by omega
  clear hz hd hM b1 b2
  induction d generalizing z with
  | zero =>
    intro V
    refine wl_succ ?_
    obtain rfl : z = 256 := by omega
    have hF : dkF m seed info 0 256 = (0, 3) := rfl
    rw [hF]
    repeat' (first | refine rbt ?_ | refine rbf ?_ | refine wn ?_ | refine wq ?_ | refine wc_plain ?_ | refine wc_draw ?_ | refine rZ ?_ | refine rD ?_ | refine ve8 ?_ | refine ve4 ?_ | refine ve3 ?_ | refine ve1 ?_ | refine ve2 ?_ | refine ve5 ?_ | refine ve6 ?_ | refine ve7 ?_ | refine ve9 ?_ | refine rA ?_ | refine rE ?_ | refine rC ?_ | refine rB ?_ | refine rG ?_ | refine rH ?_ | refine rI ?_ | refine rJ ?_ | refine rcb ?_ | refine wb ?_ | refine wk ?_ | refine we ?_ | exact wt | refine wr ?_ | refine rr1 ?_ | refine rr2 ?_ | exact fr | exact fe | refine wTs ?_ | refine wFs ?_ | refine rof ?_ | refine rof0 ?_)
  | succ d ih =>
    intro V
    refine wl_succ ?_
    have hF : dkF m seed info (d + 1) z = if kd m seed info z = 0 then dkF m seed info d (z + 1) else (kd m seed info z, 0) := rfl
    have hz := hH z
    have hw : IntKind.u8.wrap (z : Int) = z := by simp only [IntKind.wrap, IntKind.bits, IntKind.signed]; simp; omega
    have hlt : decide ((z : Int) < 256) = true := decide_eq_true (by omega)
    have s3 := s2 (IntKind.u8.wrap (z : Int))
    rw [← hw] at hz
    rw [hF]
    generalize kd m seed info z = kz at *
    by_cases hk : kz = 0
    · subst hk
      rw [if_pos rfl]
      repeat' (first | refine rbt ?_ | refine rbf ?_ | refine wn ?_ | refine wq ?_ | refine wc_plain ?_ | refine wc_draw ?_ | refine rZ ?_ | refine rD ?_ | refine ve8 ?_ | refine ve4 ?_ | refine ve3 ?_ | refine ve1 ?_ | refine ve2 ?_ | refine ve5 ?_ | refine ve6 ?_ | refine ve7 ?_ | refine ve9 ?_ | refine rA ?_ | refine rE ?_ | refine rC ?_ | refine rB ?_ | refine rG ?_ | refine rH ?_ | refine rI ?_ | refine rJ ?_ | refine rcb ?_ | refine rc (fun w_ _ => hZ w_) ?_ | refine rc (fun w_ _ => hT w_) ?_ | refine rc (fun w_ _ => hz w_) ?_ | refine rbs (ty := tBs) tU8 ?_ | refine rcv (fun g_ w_ hb_ => cv1 _ g_ w_ hb_) ?_ | refine wb ?_ | refine wk ?_ | refine we ?_ | exact wt | refine wr ?_ | refine rr1 ?_ | refine rr2 ?_ | exact fr | exact fe | refine wTs ?_ | refine wFs ?_ | refine rof ?_ | refine rof0 ?_)
      have hwz : IntKind.i64.wrap ((z : Int) + 1) = ((z + 1 : Nat) : Int) := by rw [IntWalk.i64_in _ (by omega)]; omega
      refine wl_inv (l := [(0, .v (.int .i64 m)), (1, .v (.string seed)), (2, .v (.string info)), (8, .v (.int .i64 ((z + 1 : Nat) : Int)))]) [0, 1, 2, 8] 0 (ih (z + 1) (by omega)) (Eq.trans (b := some [(0, .v (.int .i64 m)), (1, .v (.string seed)), (2, .v (.string info)), (8, .v (.int .i64 (IntKind.i64.wrap ((z : Int) + 1))))]) (by rfl) (by rw [hwz]))
    · rw [if_neg hk]
      have b3 : (kz != 0) = true := by rw [bne_iff_ne]; exact hk
      clear hk
      repeat' (first | refine rbt ?_ | refine rbf ?_ | refine wn ?_ | refine wq ?_ | refine wc_plain ?_ | refine wc_draw ?_ | refine rZ ?_ | refine rD ?_ | refine ve8 ?_ | refine ve4 ?_ | refine ve3 ?_ | refine ve1 ?_ | refine ve2 ?_ | refine ve5 ?_ | refine ve6 ?_ | refine ve7 ?_ | refine ve9 ?_ | refine rA ?_ | refine rE ?_ | refine rC ?_ | refine rB ?_ | refine rG ?_ | refine rH ?_ | refine rI ?_ | refine rJ ?_ | refine rcb ?_ | refine rc (fun w_ _ => hZ w_) ?_ | refine rc (fun w_ _ => hT w_) ?_ | refine rc (fun w_ _ => hz w_) ?_ | refine rbs (ty := tBs) tU8 ?_ | refine rcv (fun g_ w_ hb_ => cv1 _ g_ w_ hb_) ?_ | refine wb ?_ | refine wk ?_ | refine we ?_ | exact wt | refine wr ?_ | refine rr1 ?_ | refine rr2 ?_ | exact fr | exact fe | refine wTs ?_ | refine wFs ?_ | refine rof ?_ | refine rof0 ?_)
set_option maxRecDepth 100000 in
set_option maxHeartbeats 8000000 in
theorem dk_no (m : Int) (seed info : ByteArray) (h : ¬ (0 ≤ m ∧ m ≤ 2 ∧ seed.size = 32 ∧ info.size ≤ 60000)) (w : World) :
    Calls Tryz.prog 38 #[.int .i64 m, .string seed, .string info] w fun e w' => e = .returned (.tuple #[.int .u64 0, .int .i64 1]) ∧ Below w.heap.size w w' := by
  refine ve_fn (args := [.int .i64 m, .string seed, .string info]) Tryz.func38 rfl Tryz.ntmps38 rfl (good (Γ := fun _ => True) (fun _ _ => trivial)) ?_
  by_cases hm : 0 ≤ m ∧ m ≤ 2
  · have hM : ∀ w, Calls Tryz.prog 87 #[.int .i64 m] w _ := fun w => drb (spec_l5Mode.calls m true w (by unfold spec_l5Mode.f; rw [if_pos hm.1]; simp [hm.2]))
    by_cases h3 : seed.size = 32
    · have b1 : ((seed.size : Int) != 32) = false := by rw [bne_eq_false_iff_eq]; omega
      have b2 : decide ((info.size : Int) > 60000) = true := decide_eq_true (by have := fun q => h ⟨hm.1, hm.2, h3, q⟩; omega)
      clear h hm h3
      repeat' (first | refine rbt ?_ | refine rbf ?_ | refine wn ?_ | refine wq ?_ | refine wc_plain ?_ | refine wc_draw ?_ | refine rZ ?_ | refine rD ?_ | refine ve8 ?_ | refine ve4 ?_ | refine ve3 ?_ | refine ve1 ?_ | refine ve2 ?_ | refine ve5 ?_ | refine ve6 ?_ | refine ve7 ?_ | refine ve9 ?_ | refine rA ?_ | refine rE ?_ | refine rC ?_ | refine rB ?_ | refine rG ?_ | refine rH ?_ | refine rI ?_ | refine rJ ?_ | refine rcb ?_ | refine rc (fun w_ _ => hM w_) ?_ | refine wb ?_ | refine wk ?_ | refine we ?_ | exact wt | refine wr ?_ | refine rr1 ?_ | refine rr2 ?_ | exact fr | exact fe | refine wTs ?_ | refine wFs ?_ | refine rof ?_ | refine rof0 ?_)
    · have b1 : ((seed.size : Int) != 32) = true := by rw [bne_iff_ne]; omega
      clear h hm h3
      repeat' (first | refine rbt ?_ | refine rbf ?_ | refine wn ?_ | refine wq ?_ | refine wc_plain ?_ | refine wc_draw ?_ | refine rZ ?_ | refine rD ?_ | refine ve8 ?_ | refine ve4 ?_ | refine ve3 ?_ | refine ve1 ?_ | refine ve2 ?_ | refine ve5 ?_ | refine ve6 ?_ | refine ve7 ?_ | refine ve9 ?_ | refine rA ?_ | refine rE ?_ | refine rC ?_ | refine rB ?_ | refine rG ?_ | refine rH ?_ | refine rI ?_ | refine rJ ?_ | refine rcb ?_ | refine rc (fun w_ _ => hM w_) ?_ | refine wb ?_ | refine wk ?_ | refine we ?_ | exact wt | refine wr ?_ | refine rr1 ?_ | refine rr2 ?_ | exact fr | exact fe | refine wTs ?_ | refine wFs ?_ | refine rof ?_ | refine rof0 ?_)
  · have hM : ∀ w, Calls Tryz.prog 87 #[.int .i64 m] w _ := fun w => drb (spec_l5Mode.calls m false w (by
      unfold spec_l5Mode.f
      by_cases q : m ≥ 0
      · rw [if_pos q]; congr 1; exact decide_eq_false (fun z => hm ⟨q, z⟩)
      · rw [if_neg q]))
    clear h hm
    repeat' (first | refine rbt ?_ | refine rbf ?_ | refine wn ?_ | refine wq ?_ | refine wc_plain ?_ | refine wc_draw ?_ | refine rZ ?_ | refine rD ?_ | refine ve8 ?_ | refine ve4 ?_ | refine ve3 ?_ | refine ve1 ?_ | refine ve2 ?_ | refine ve5 ?_ | refine ve6 ?_ | refine ve7 ?_ | refine ve9 ?_ | refine rA ?_ | refine rE ?_ | refine rC ?_ | refine rB ?_ | refine rG ?_ | refine rH ?_ | refine rI ?_ | refine rJ ?_ | refine rcb ?_ | refine rc (fun w_ _ => hM w_) ?_ | refine wb ?_ | refine wk ?_ | refine we ?_ | exact wt | refine wr ?_ | refine rr1 ?_ | refine rr2 ?_ | exact fr | exact fe | refine wTs ?_ | refine wFs ?_ | refine rof ?_ | refine rof0 ?_)
end Go.Proofs.YtgdcafbdkidamaaGreatDoor.Sdk
namespace Go.Proofs.YtgdcafbdkidamaaGreatDoor.C
open Go Go.RowKit Go.Proofs.YtgdcafbdkidamaaGreatDoorW.PrintWords Go.Proofs.YtgdcafbdkidamaaGreatDoor.DK
def spec_DeriveKey.f (_k : Nat) (m : Int) (seed info : ByteArray) : Option (Int × Int) := some (dk m seed info)
theorem spec_DeriveKey.calls (k : Nat) (m : Int) (seed info : ByteArray) (r1 r2 : Int) (w : World) (h : spec_DeriveKey.f k m seed info = some (r1, r2)) :
    Calls Tryz.prog 38 #[.int .i64 m, .string seed, .string info] w fun e w' => e = .returned (.tuple #[.int .u64 r1, .int .i64 r2]) ∧ Below w.heap.size w w' := by
  have h2 : dk m seed info = (r1, r2) := Option.some.inj h
  by_cases g : 0 ≤ m ∧ m ≤ 2 ∧ seed.size = 32 ∧ info.size ≤ 60000
  · have e : dk m seed info = dkF m seed info 256 0 := by unfold dk; rw [if_neg (by omega)]
    have := Sdk.dk_ok m seed info g.1 g.2.1 g.2.2.1 g.2.2.2 w
    rw [← e, h2] at this
    exact this
  · have e : dk m seed info = (0, 1) := by unfold dk; rw [if_pos (by omega)]
    rw [e] at h2
    obtain ⟨rfl, rfl⟩ := Prod.mk.inj h2
    exact Sdk.dk_no m seed info g w
end Go.Proofs.YtgdcafbdkidamaaGreatDoor.C
end
section
namespace Go.Proofs.YtgdcafbdkidamaaGreatDoor.Dks
open Go Go.RowKit Go.Proofs.YtgdcafbdkidamaaGreatDoor.C Go.Proofs.YtgdcafbdkidamaaGreatDoor.DK
theorem dk_spec (m : Int) (seed info : ByteArray) {k : Nat} (_hk : 702000 ≤ k) : C.spec_DeriveKey.f k m seed info = some (dk m seed info) := rfl
end Go.Proofs.YtgdcafbdkidamaaGreatDoor.Dks
end
section
namespace Go.Proofs.YtgdcafbdkidamaaGreatDoor.C
open Go.Proofs.YtgdcafbdkidamaaGreatDoor.Sq Go.RowKit Go.Proofs.YtgdcafbdkidamaaGreatDoor.B Go.Proofs.YtgdcafbdkidamaaGreatDoor.H0 Go.Proofs.YtgdcafbdkidamaaGreatDoor.F0 Go.Proofs.YtgdcafbdkidamaaGreatDoor.S5 Go.Proofs.YtgdcafbdkidamaaGreatDoor.T5 Go.Proofs.YtgdcafbdkidamaaGreatDoor.KG2 Go.Proofs.YtgdcafbdkidamaaGreatDoorW.PrintWords Go.Proofs.YtgdcafbdkidamaaGreatDoorW.PrintLast Go.Proofs.YtgdcafbdkidamaaGreatDoorW.PrintMore
attribute [local go_sem high] field_num_fieldP   -- for this text's walks alone
attribute [local go_sem] max2_int min2_int max_two min_two max_three min_three max_four min_four   -- for this text's walks alone
set_option linter.unusedVariables false
set_option linter.unusedSimpArgs false
def spec_l7Private.f (k : Nat) (a0 : ByteArray) (a1 : ByteArray) : Option (Int × Bool) := (spec_l7Part.f k a0 a1 (⟨#[80, 114, 105, 118, 97, 116, 101]⟩ : ByteArray)).bind fun t536 => ((spec_DeriveKey.f k 0 t536 (⟨#[67, 108, 105, 101, 110, 116]⟩ : ByteArray)).bind fun bt537 => (some (bt537.1, (bt537.2 == 0))))
set_option maxHeartbeats 8000000 in
set_option maxRecDepth 100000 in
theorem spec_l7Private.calls (k : Nat) (a0 : ByteArray) (a1 : ByteArray) (r1 : Int) (r2 : Bool) (w : World) (h : spec_l7Private.f k a0 a1 = some (r1, r2)) :
    Calls Tryz.prog 71 #[.string a0, .string a1] w fun e w' => e = .returned (.tuple #[.int .u64 r1, .bool r2]) ∧ Below w.heap.size w w' := by
  have HB := Aside0.mk (Below.refl w.heap.size w)
  have H : ((spec_l7Part.f k a0 a1 (⟨#[80, 114, 105, 118, 97, 116, 101]⟩ : ByteArray)).bind fun t536 => ((spec_DeriveKey.f k 0 t536 (⟨#[67, 108, 105, 101, 110, 116]⟩ : ByteArray)).bind fun bt537 => (some (bt537.1, (bt537.2 == 0))))) = some (r1, r2) := h
  clear h
  replace H := Option.bind_eq_some_iff.mp H
  obtain ⟨t536, A30, H⟩ := H
  try dsimp only at H
  have A3 := Aside0.mk A30
  clear A30
  replace H := Option.bind_eq_some_iff.mp H
  obtain ⟨⟨t537, t538⟩, A40, H⟩ := H
  try dsimp only at H
  have A4 := Aside0.mk A40
  clear A40
  simp only [Option.some.injEq, Prod.mk.injEq] at H
  obtain ⟨rfl, rfl⟩ := H
  go_enter Tryz.func71, Tryz.ntmps71
  go_wp2_with (first | ((with_reducible refine gate_callee (f := 76) rfl ?_); refine goesL_ (some 11) rfl rfl Tryz.func76 (by kernel_rfl) rfl #[.string a0, .string a1, .string (⟨#[80, 114, 105, 118, 97, 116, 101]⟩ : ByteArray)] rfl ga_ ?_; (with_reducible refine (spec_l7Part.calls k a0 a1 (⟨#[80, 114, 105, 118, 97, 116, 101]⟩ : ByteArray) t536 _ A3.out).mono ?_); rintro e w5 ⟨rfl, hb⟩; refine ⟨_, rfl, ?_⟩; have n0_ := Aside0.mk (below_step hb_ hb); clear HB; have HB := n0_; clear n0_; (try clear hb); (try clear hb2); (try clear hk); (try clear hi)) | ((with_reducible refine gate_callee (f := 38) rfl ?_); refine goesL_ (some 12) rfl rfl Tryz.func38 (by kernel_rfl) rfl #[.int .i64 0, .string t536, .string (⟨#[67, 108, 105, 101, 110, 116]⟩ : ByteArray)] rfl ga_ ?_; (with_reducible refine (spec_DeriveKey.calls k 0 t536 (⟨#[67, 108, 105, 101, 110, 116]⟩ : ByteArray) t537 t538 _ A4.out).mono ?_); rintro e w6 ⟨rfl, hb⟩; refine ⟨_, rfl, ?_⟩; have n0_ := Aside0.mk (below_step hb_ hb); clear HB; have HB := n0_; clear n0_; (try clear hb); (try clear hb2); (try clear hk); (try clear hi)))
  go_ret2
  exact ⟨by first | rfl | (simp [errW_none, errW_some] <;> rfl) | (simp [*, errW_none, errW_some] <;> rfl), by repeat (first | (with_reducible first | exact HB.out | apply below_alloc | apply pw_below_drewN | apply below_drew1) | exact HB.out)⟩

end Go.Proofs.YtgdcafbdkidamaaGreatDoor.C
end
section
namespace Go.Proofs.YtgdcafbdkidamaaGreatDoor.C
open Go.Proofs.YtgdcafbdkidamaaGreatDoor.Sq Go.RowKit Go.Proofs.YtgdcafbdkidamaaGreatDoor.B Go.Proofs.YtgdcafbdkidamaaGreatDoor.H0 Go.Proofs.YtgdcafbdkidamaaGreatDoor.F0 Go.Proofs.YtgdcafbdkidamaaGreatDoor.S5 Go.Proofs.YtgdcafbdkidamaaGreatDoor.T5 Go.Proofs.YtgdcafbdkidamaaGreatDoor.KG2 Go.Proofs.YtgdcafbdkidamaaGreatDoorW.PrintWords Go.Proofs.YtgdcafbdkidamaaGreatDoorW.PrintLast Go.Proofs.YtgdcafbdkidamaaGreatDoorW.PrintMore Go.Proofs.YtgdcafbdkidamaaGreatDoor.Ve Go.Proofs.YtgdcafbdkidamaaGreatDoor.VeT Go.Proofs.YtgdcafbdkidamaaGreatDoor.VeE
attribute [local go_sem high] field_num_fieldP   -- for this text's walks alone
attribute [local go_sem] max2_int min2_int max_two min_two max_three min_three max_four min_four   -- for this text's walks alone
set_option linter.unusedVariables false
set_option linter.unusedSimpArgs false
def spec_Seal.j0 : Nat → ByteArray → ByteArray → ByteArray → Bool → Int → Int → Bool → Option (ByteArray × Int × Int × Bool × ByteArray × ByteArray × Bool)
  | 0, _, _, _, _, _, _, _ => none
  | k + 1, x0, x1, x3, x31, x540000, x540001, x540002 => if x31 = true then (some ((⟨#[]⟩ : ByteArray), 0, 0, false, (⟨#[]⟩ : ByteArray), (⟨#[]⟩ : ByteArray), false)) else ((spec_l7Private.f k x0 x1).bind fun bt543 => (if bt543.2 = true then ((spec_l7Part.f k x0 x1 (⟨#[65, 117, 116, 104]⟩ : ByteArray)).bind fun t545 => ((spec_PutPoint.f k x540000 x540001 x540002).bind fun t546 => (if x1.size + t546.size ≤ 9223372036854775807 then ((spec_l5Sized.f x3).bind fun t547 => (if (x1 ++ t546).size + t547.size ≤ 9223372036854775807 then ((spec_Hmac.f k t545 ((x1 ++ t546) ++ t547)).bind fun t548 => ((spec_Base.f).bind fun bt549 => ((spec_Times.f k bt543.1 bt549.1 bt549.2.1 bt549.2.2).bind fun bt552 => (if x1.size + t548.size ≤ 9223372036854775807 then ((spec_l7Part.f k x0 x1 (⟨#[69, 120, 112, 111, 114, 116]⟩ : ByteArray)).bind fun t555 => (some (x3, bt552.1, bt552.2.1, bt552.2.2, x1 ++ t548, t555, true))) else (none))))) else (none))) else (none)))) else (some ((⟨#[]⟩ : ByteArray), 0, 0, false, (⟨#[]⟩ : ByteArray), (⟨#[]⟩ : ByteArray), false))))
def spec_Seal.f (k : Nat) (a0 : ByteArray) (a1 : ByteArray) (a2_0 : Int) (a2_1 : Int) (a2_2 : Bool) (a3 : ByteArray) : Option (ByteArray × Int × Int × Bool × ByteArray × ByteArray × Bool) := if (a0.size : Int) = 32 then (if (a1.size : Int) = 16 then ((spec_l6Element.f a2_0 a2_1 a2_2).bind fun t541 => (if t541 = true then ((spec_l7Name.f a3).bind fun t542 => (spec_Seal.j0 k a0 a1 a3 (!t542) a2_0 a2_1 a2_2)) else (spec_Seal.j0 k a0 a1 a3 true a2_0 a2_1 a2_2))) else (spec_Seal.j0 k a0 a1 a3 true a2_0 a2_1 a2_2)) else (spec_Seal.j0 k a0 a1 a3 true a2_0 a2_1 a2_2)
set_option maxRecDepth 100000 in
set_option maxHeartbeats 4000000 in
theorem spec_Seal.calls (k : Nat) (a0 : ByteArray) (a1 : ByteArray) (a2_0 : Int) (a2_1 : Int) (a2_2 : Bool) (a3 : ByteArray) (r1 : ByteArray) (r2 : Int) (r3 : Int) (r4 : Bool) (r5 : ByteArray) (r6 : ByteArray) (r7 : Bool) (w : World) (h : spec_Seal.f k a0 a1 a2_0 a2_1 a2_2 a3 = some (r1, r2, r3, r4, r5, r6, r7)) :
    Calls Tryz.prog 34 #[.string a0, .string a1, .agg #[.int .u64 a2_0, .int .u64 a2_1, .bool a2_2], .string a3] w fun e w' => e = .returned (.tuple #[.agg #[.string r1, .int .u64 r2, .int .u64 r3, .bool r4, .string r5], .string r6, .bool r7]) ∧ Below w.heap.size w w' := by
  unfold spec_Seal.f at h
  all_goals rcases k with _ | k
  repeat' (first | (rw [Option.bind_eq_some_iff] at h; obtain ⟨_, _, h⟩ := h) | (split at h) | (rw [spec_Seal.j0] at h) | (cases h <;> fail) | (replace h := Option.some.inj h) | (have h3_ := (Prod.mk.inj h).1; replace h := (Prod.mk.inj h).2; subst h3_) | (subst h))
  all_goals try contradiction
  all_goals refine ve_fn (args := [.string a0, .string a1, .agg #[.int .u64 a2_0, .int .u64 a2_1, .bool a2_2], .string a3]) Tryz.func34 rfl Tryz.ntmps34 rfl (good (Γ := fun _ => True) (fun _ _ => trivial)) ?_
  all_goals repeat' (first | refine rbt ?_ | refine rbf ?_ | refine wn ?_ | refine wq ?_ | refine wc_plain ?_ | refine wc_draw ?_ | refine rZ ?_ | refine rD ?_ | refine ve8 ?_ | refine ve4 ?_ | refine ve3 ?_ | refine ve1 ?_ | refine ve2 ?_ | refine ve5 ?_ | refine ve6 ?_ | refine ve7 ?_ | refine ve9 ?_ | refine rA ?_ | refine rE ?_ | refine rC ?_ | refine rB ?_ | refine rG ?_ | refine rH ?_ | refine rI ?_ | refine rJ ?_ | refine rcb ?_ | refine rcp (Pre := spec_l7Private.f _ _ _ = some (_, _)) (fun hp_ w_ hΓ => spec_l7Private.calls _ _ _ _ _ w_ hp_) ?_ | refine rcp (Pre := spec_l7Part.f _ _ _ _ = some _) (fun hp_ w_ hΓ => spec_l7Part.calls _ _ _ _ _ w_ hp_) ?_ | refine rcp (Pre := spec_PutPoint.f _ _ _ _ = some _) (fun hp_ w_ hΓ => spec_PutPoint.calls _ _ _ _ _ w_ hp_) ?_ | refine rcp (Pre := spec_l5Sized.f _ = some _) (fun hp_ w_ hΓ => spec_l5Sized.calls _ _ w_ hp_) ?_ | refine rcp (Pre := spec_Hmac.f _ _ _ = some _) (fun hp_ w_ hΓ => spec_Hmac.calls _ _ _ _ w_ hp_) ?_ | refine rc (fun w_ hΓ => spec_Base.calls _ _ _ w_ (by assumption)) ?_ | refine rcp (Pre := spec_Times.f _ _ _ _ _ = some (_, _, _)) (fun hp_ w_ hΓ => spec_Times.calls _ _ _ _ _ _ _ _ w_ hp_) ?_ | refine rcp (Pre := spec_l6Element.f _ _ _ = some _) (fun hp_ w_ hΓ => spec_l6Element.calls _ _ _ _ w_ hp_) ?_ | refine rcp (Pre := spec_l7Name.f _ = some _) (fun hp_ w_ hΓ => drb (spec_l7Name.calls _ _ w_ hp_)) ?_ | refine rel (fun w_ hΓ => ld_zero (by first  |  exact hΓ.z  |  exact hΓ.1.z  |  exact hΓ.1  |  exact hΓ)) ?_  |  refine req (fun w_ => eq_pt w_) ?_  |  refine req (fun w_ => ne_pt w_) ?_  |  refine req (fun w_ => eq_num w_) ?_  |  refine rsh ?_  |  refine rsl_ ?_  |  refine rslh ?_ | refine wb ?_ | refine wk ?_ | refine we ?_ | exact wt | refine wr ?_ | refine rr1 ?_ | refine rr2 ?_ | exact fr | exact fe | refine wTs ?_ | refine wFs ?_ | refine rof ?_ | refine rof0 ?_)

end Go.Proofs.YtgdcafbdkidamaaGreatDoor.C
end
section
namespace Go.Proofs.YtgdcafbdkidamaaGreatDoor.C
open Go.Proofs.YtgdcafbdkidamaaGreatDoor.Sq Go.RowKit Go.Proofs.YtgdcafbdkidamaaGreatDoor.B Go.Proofs.YtgdcafbdkidamaaGreatDoor.H0 Go.Proofs.YtgdcafbdkidamaaGreatDoor.F0 Go.Proofs.YtgdcafbdkidamaaGreatDoor.S5 Go.Proofs.YtgdcafbdkidamaaGreatDoor.T5 Go.Proofs.YtgdcafbdkidamaaGreatDoor.KG2 Go.Proofs.YtgdcafbdkidamaaGreatDoorW.PrintWords Go.Proofs.YtgdcafbdkidamaaGreatDoorW.PrintLast Go.Proofs.YtgdcafbdkidamaaGreatDoorW.PrintMore Go.Proofs.YtgdcafbdkidamaaGreatDoor.Ve Go.Proofs.YtgdcafbdkidamaaGreatDoor.VeT Go.Proofs.YtgdcafbdkidamaaGreatDoor.VeE
attribute [local go_sem high] field_num_fieldP   -- for this text's walks alone
attribute [local go_sem] max2_int min2_int max_two min_two max_three min_three max_four min_four   -- for this text's walks alone
set_option linter.unusedVariables false
set_option linter.unusedSimpArgs false
def spec_Unseal.f (k : Nat) (a0 : ByteArray) (a1 : ByteArray) (a2_0 : Int) (a2_1 : Int) (a2_2 : Bool) (a3 : ByteArray) : Option (Int × ByteArray × Bool) := if (a1.size : Int) = 48 then (if 0 ≤ 16 then (if 16 ≤ (a1.size : Int) then ((spec_Seal.f k a0 (a1.extract 0 16) a2_0 a2_1 a2_2 a3).bind fun bt557 => (if bt557.2.2.2.2.2.2 = true then (if bt557.2.2.2.2.1.toList = a1.toList then ((spec_l7Private.f k a0 (a1.extract 0 16)).bind fun bt565 => (some (bt565.1, bt557.2.2.2.2.2.1, true))) else (some (0, (⟨#[]⟩ : ByteArray), false))) else (some (0, (⟨#[]⟩ : ByteArray), false)))) else (none)) else (none)) else (some (0, (⟨#[]⟩ : ByteArray), false))
set_option maxRecDepth 100000 in
set_option maxHeartbeats 4000000 in
theorem spec_Unseal.calls (k : Nat) (a0 : ByteArray) (a1 : ByteArray) (a2_0 : Int) (a2_1 : Int) (a2_2 : Bool) (a3 : ByteArray) (r1 : Int) (r2 : ByteArray) (r3 : Bool) (w : World) (h : spec_Unseal.f k a0 a1 a2_0 a2_1 a2_2 a3 = some (r1, r2, r3)) :
    Calls Tryz.prog 32 #[.string a0, .string a1, .agg #[.int .u64 a2_0, .int .u64 a2_1, .bool a2_2], .string a3] w fun e w' => e = .returned (.tuple #[.int .u64 r1, .string r2, .bool r3]) ∧ Below w.heap.size w w' := by
  unfold spec_Unseal.f at h
  repeat' (first | (rw [Option.bind_eq_some_iff] at h; obtain ⟨_, _, h⟩ := h) | (split at h) | (cases h <;> fail) | (replace h := Option.some.inj h) | (have h3_ := (Prod.mk.inj h).1; replace h := (Prod.mk.inj h).2; subst h3_) | (subst h))
  all_goals try contradiction
  all_goals refine ve_fn (args := [.string a0, .string a1, .agg #[.int .u64 a2_0, .int .u64 a2_1, .bool a2_2], .string a3]) Tryz.func32 rfl Tryz.ntmps32 rfl (good (Γ := fun _ => True) (fun _ _ => trivial)) ?_
  all_goals repeat' (first | refine rbt ?_ | refine rbf ?_ | refine wn ?_ | refine wq ?_ | refine wc_plain ?_ | refine wc_draw ?_ | refine rZ ?_ | refine rD ?_ | refine ve8 ?_ | refine ve4 ?_ | refine ve3 ?_ | refine ve1 ?_ | refine ve2 ?_ | refine ve5 ?_ | refine ve6 ?_ | refine ve7 ?_ | refine ve9 ?_ | refine rA ?_ | refine rE ?_ | refine rC ?_ | refine rB ?_ | refine rG ?_ | refine rH ?_ | refine rI ?_ | refine rJ ?_ | refine rcb ?_ | refine rcp (Pre := spec_Seal.f _ _ _ _ _ _ _ = some (_, _, _, _, _, _, _)) (fun hp_ w_ hΓ => spec_Seal.calls _ _ _ _ _ _ _ _ _ _ _ _ _ _ w_ hp_) ?_ | refine rcp (Pre := spec_l7Private.f _ _ _ = some (_, _)) (fun hp_ w_ hΓ => spec_l7Private.calls _ _ _ _ _ w_ hp_) ?_ | refine rel (fun w_ hΓ => ld_zero (by first  |  exact hΓ.z  |  exact hΓ.1.z  |  exact hΓ.1  |  exact hΓ)) ?_  |  refine req (fun w_ => eq_pt w_) ?_  |  refine req (fun w_ => ne_pt w_) ?_  |  refine req (fun w_ => eq_num w_) ?_  |  refine rsh ?_  |  refine rsl_ ?_  |  refine rslh ?_ | refine wb ?_ | refine wk ?_ | refine we ?_ | exact wt | refine wr ?_ | refine rr1 ?_ | refine rr2 ?_ | exact fr | exact fe | refine wTs ?_ | refine wFs ?_ | refine rof ?_ | refine rof0 ?_)

end Go.Proofs.YtgdcafbdkidamaaGreatDoor.C
end
section
namespace Go.Proofs.YtgdcafbdkidamaaGreatDoor.Sl
open Go Go.RowKit Go.Proofs.YtgdcafbdkidamaaGreatDoorW.PrintWords Go.Proofs.YtgdcafbdkidamaaGreatDoorW.PrintLast Go.Proofs.YtgdcafbdkidamaaGreatDoorW.PrintMore Go.Proofs.YtgdcafbdkidamaaGreatDoor.G3 Go.Proofs.YtgdcafbdkidamaaGreatDoor.KG2 Go.Proofs.YtgdcafbdkidamaaGreatDoor.KH2 Go.Proofs.YtgdcafbdkidamaaGreatDoor.DK Go.Proofs.YtgdcafbdkidamaaGreatDoor.Dks Go.Proofs.YtgdcafbdkidamaaGreatDoor.Hp Go.Proofs.YtgdcafbdkidamaaGreatDoor.S5 Go.Proofs.YtgdcafbdkidamaaGreatDoor.K5 Go.Proofs.YtgdcafbdkidamaaGreatDoor.B Go.Proofs.YtgdcafbdkidamaaGreatDoor.C Go.Proofs.YtgdcafbdkidamaaGreatDoor.Pure Go.Proofs.YtgdcafbdkidamaaGreatDoor.D
open EC Fp Grp Vi
set_option linter.unusedVariables false
set_option linter.unusedSimpArgs false
theorem element_spec (x y : Int) (i : Bool) (hx : 0 ≤ x) (hy : 0 ≤ y) : spec_l6Element.f x y i = some (oc x y i && !i) := by
  unfold spec_l6Element.f
  rw [onCurve_spec x y i hx hy, Option.bind_some]
  cases oc x y i <;> rfl
theorem name_spec (u : ByteArray) : spec_l7Name.f u = some (decide (1 ≤ u.size ∧ u.size ≤ 32)) := by
  unfold spec_l7Name.f
  by_cases h : (u.size : Int) ≥ 1
  · rw [if_pos h]; congr 1; exact decide_eq_decide.2 (by omega)
  · rw [if_neg h]; congr 1; exact (decide_eq_false (by omega)).symm
theorem prt_size (s n w : ByteArray) : (prt s n w).size ≤ 32 := by
  unfold prt exp1
  show (List.toArray _).size ≤ _
  rw [List.size_toArray, List.length_take]
  omega
theorem part_spec (s n w : ByteArray) (hs : s.size ≤ 1048576) (hn : n.size ≤ 1048576) (hw : w.size ≤ 100) {k : Nat} (hk : 2000 ≤ k) : spec_l7Part.f k s n w = some (prt s n w) := by
  have hz := hm1_size ⟨#[]⟩ s
  unfold spec_l7Part.f spec_Extract.f
  rw [hmac_spec _ _ (by decide) (by omega) _ (by omega), Option.bind_some, Option.bind_some, if_pos (by omega)]
  have e := exp_spec (hm1 ⟨#[]⟩ s) (n ++ w) 32 (by omega) (by rw [app_size]; omega)
  rw [exp_impl _ _ (by omega) (by rw [app_size]; omega)] at e
  rw [at_least (f := fun k => spec_Expand.f k (hm1 ⟨#[]⟩ s) (n ++ w) 32) (fun k => spec_Expand.mono _ _ _ k) e hk, Option.bind_some]
  rfl
theorem private_spec (s n : ByteArray) (hs : s.size ≤ 1048576) (hn : n.size ≤ 1048576) {k : Nat} (hk : 702000 ≤ k) : spec_l7Private.f k s n = some ((pvt s n).1, ((pvt s n).2 == 0)) := by
  unfold spec_l7Private.f
  rw [part_spec s n _ hs hn (by decide) (by omega), Option.bind_some, dk_spec _ _ _ hk, Option.bind_some]
  rfl
theorem hm_cat (k a b c : ByteArray) : K6.hm Ks.kk k [a, b, c] = hm1 k ((a ++ b) ++ c) := by
  have e1 : sbs [a, b, c] = sbs [(a ++ b) ++ c] := by unfold sbs; simp [K4.sb_app]
  have e2 : tot [a, b, c] = tot [(a ++ b) ++ c] := by unfold tot; simp [app_size]; omega
  unfold hm1 K6.hm
  rw [e1, e2]
theorem spub_spec (s n : ByteArray) {k : Nat} (hk : 200 ≤ k) : spec_Times.f k (pvt s n).1 1 509478702933351334 false = some (spub s n) := by
  have h := dk_range 0 (prt s n ⟨#[80, 114, 105, 118, 97, 116, 101]⟩) ⟨#[67, 108, 105, 101, 110, 116]⟩
  have := times_spec base cv_base (pvt s n).1 h.1 (by show (dk _ _ _).1 < _; omega) hk
  rw [← base_enc] at this
  exact this
theorem seal_spec (s n u : ByteArray) (x y : Int) (i : Bool) (hs : s.size ≤ 1048576) (hn : n.size ≤ 1048576) (hu : u.size ≤ 1048576) (hx : 0 ≤ x ∧ x < 18446744073709551616) (hy : 0 ≤ y ∧ y < 18446744073709551616) {k : Nat} (hk : 702001 ≤ k) :
    spec_Seal.f k s n x y i u = some ((sealV s n x y i u).1, (sealV s n x y i u).2.1.1, (sealV s n x y i u).2.1.2.1, (sealV s n x y i u).2.1.2.2, (sealV s n x y i u).2.2.1, (sealV s n x y i u).2.2.2.1, (sealV s n x y i u).2.2.2.2) := by
  obtain ⟨k, rfl⟩ : ∃ j, k = j + 1 := ⟨k - 1, by omega⟩
  have no : ∀ b : Bool, b = true → ¬ (sealOk s n x y i u ∧ (pvt s n).2 = 0) → spec_Seal.j0 (k + 1) s n u b x y i = some ((sealV s n x y i u).1, (sealV s n x y i u).2.1.1, (sealV s n x y i u).2.1.2.1, (sealV s n x y i u).2.1.2.2, (sealV s n x y i u).2.2.1, (sealV s n x y i u).2.2.2.1, (sealV s n x y i u).2.2.2.2) := by
    intro b hb h
    unfold sealV
    rw [spec_Seal.j0, if_pos hb, if_neg h]
  unfold spec_Seal.f
  by_cases z1 : (s.size : Int) = 32
  rotate_left
  · rw [if_neg z1]; exact no _ rfl (fun h => z1 (by have := h.1.1; omega))
  rw [if_pos z1]
  by_cases z2 : (n.size : Int) = 16
  rotate_left
  · rw [if_neg z2]; exact no _ rfl (fun h => z2 (by have := h.1.2.1; omega))
  rw [if_pos z2, element_spec x y i hx.1 hy.1, Option.bind_some]
  by_cases z3 : (oc x y i && !i) = true
  rotate_left
  · rw [if_neg z3]; exact no _ rfl (fun h => z3 (by rw [h.1.2.2.2.2.1, h.1.2.2.2.2.2]; rfl))
  rw [if_pos z3, name_spec, Option.bind_some]
  by_cases z4 : 1 ≤ u.size ∧ u.size ≤ 32
  rotate_left
  · exact no _ (by rw [decide_eq_false z4]; rfl) (fun h => z4 ⟨h.1.2.2.1, h.1.2.2.2.1⟩)
  rw [decide_eq_true z4, spec_Seal.j0, if_neg (by decide), private_spec s n hs hn (by omega), Option.bind_some]
  have hok : sealOk s n x y i u := ⟨by omega, by omega, z4.1, z4.2, by simpa using z3⟩
  have es : spec_l5Sized.f u = some (szd u) := by unfold spec_l5Sized.f; rw [if_pos (by omega)]
  have hps := prt_size s n ⟨#[65, 117, 116, 104]⟩
  have hpw := putWord_size (ptWord x y i)
  have hss := szd_size u
  have hmz := hm1_size (prt s n ⟨#[65, 117, 116, 104]⟩) ((n ++ putWord (ptWord x y i)) ++ szd u)
  have esp := fun (k : Nat) (hk : 200 ≤ k) => spub_spec s n hk
  have eb : spec_Base.f = some (1, 509478702933351334, false) := rfl
  have ea := part_spec s n ⟨#[65, 117, 116, 104]⟩ hs hn (by decide) (k := k) (by omega)
  have ex := part_spec s n ⟨#[69, 120, 112, 111, 114, 116]⟩ hs hn (by decide) (k := k) (by omega)
  unfold sealV smac
  rw [hm_cat]
  clear no
  generalize pvt s n = q at *
  generalize prt s n ⟨#[65, 117, 116, 104]⟩ = pa at *
  generalize prt s n ⟨#[69, 120, 112, 111, 114, 116]⟩ = pe at *
  obtain ⟨q1, q2⟩ := q
  dsimp only at esp ⊢
  by_cases z5 : q2 = 0
  · subst z5
    rw [if_pos (show ((0 : Int) == 0) = true from rfl), if_pos ⟨hok, rfl⟩, ea, Option.bind_some, putPoint_spec x y i hx.1 hx.2 hy.1 hy.2 (by omega), Option.bind_some, if_pos (by omega), es, Option.bind_some, if_pos (by rw [app_size]; omega),
      hmac_spec _ _ (by omega) (by rw [app_size, app_size]; omega) _ (by omega), Option.bind_some, eb, Option.bind_some, esp k (by omega), Option.bind_some, if_pos (by omega), ex, Option.bind_some]
  · have e1 : (q2 == 0) = false := by rw [beq_eq_false_iff_ne]; exact z5
    rw [e1, if_neg (by decide), if_neg (fun h => z5 h.2)]
end Go.Proofs.YtgdcafbdkidamaaGreatDoor.Sl
end
section
namespace Go.Proofs.YtgdcafbdkidamaaGreatDoor.Sl
open Go Go.RowKit Go.Proofs.YtgdcafbdkidamaaGreatDoorW.PrintWords Go.Proofs.YtgdcafbdkidamaaGreatDoorW.PrintLast Go.Proofs.YtgdcafbdkidamaaGreatDoorW.PrintMore Go.Proofs.YtgdcafbdkidamaaGreatDoor.Ve Go.Proofs.YtgdcafbdkidamaaGreatDoor.VeT Go.Proofs.YtgdcafbdkidamaaGreatDoor.VeE Go.Proofs.YtgdcafbdkidamaaGreatDoor.G3 Go.Proofs.YtgdcafbdkidamaaGreatDoor.B Go.Proofs.YtgdcafbdkidamaaGreatDoor.C
set_option linter.unusedVariables false
set_option linter.unusedSimpArgs false
/-- the private key, the export key, whether it could be -/
def unsealV (s box : ByteArray) (x y : Int) (i : Bool) (u : ByteArray) : Int × ByteArray × Bool :=
  if box.size = 48 then (if (sealV s (box.extract 0 16) x y i u).2.2.2.2 = true then (if (sealV s (box.extract 0 16) x y i u).2.2.1.toList = box.toList then ((pvt s (box.extract 0 16)).1, (sealV s (box.extract 0 16) x y i u).2.2.2.1, true) else (0, ⟨#[]⟩, false)) else (0, ⟨#[]⟩, false)) else (0, ⟨#[]⟩, false)
theorem ext_size (b : ByteArray) (h : b.size = 48) : (b.extract 0 16).size = 16 := by rw [ByteArray.size_extract]; omega
theorem unseal_spec (s box u : ByteArray) (x y : Int) (i : Bool) (hs : s.size ≤ 1048576) (hu : u.size ≤ 1048576) (hx : 0 ≤ x ∧ x < 18446744073709551616) (hy : 0 ≤ y ∧ y < 18446744073709551616) {k : Nat} (hk : 702001 ≤ k) :
    spec_Unseal.f k s box x y i u = some ((unsealV s box x y i u).1, (unsealV s box x y i u).2.1, (unsealV s box x y i u).2.2) := by
  unfold spec_Unseal.f unsealV
  by_cases h : box.size = 48
  · have hz := ext_size box h
    rw [if_pos (by omega), if_pos h, if_pos (by decide), if_pos (by omega), seal_spec s _ u x y i hs (by omega) hu hx hy hk, Option.bind_some]
    have ep := private_spec s (box.extract 0 16) hs (by omega) (k := k) (by omega)
    generalize sealV s (box.extract 0 16) x y i u = V at *
    generalize pvt s (box.extract 0 16) = q at *
    obtain ⟨v1, ⟨v2, v3, v4⟩, v5, v6, v7⟩ := V
    obtain ⟨q1, q2⟩ := q
    dsimp only at ep ⊢
    cases v7 with
    | false => rw [if_neg (by decide), if_neg (by decide)]
    | true =>
      rw [if_pos rfl, if_pos rfl]
      by_cases h5 : v5.toList = box.toList
      · rw [if_pos h5, if_pos h5, ep, Option.bind_some]
      · rw [if_neg h5, if_neg h5]
  · rw [if_neg (by omega), if_neg h]
set_option maxRecDepth 100000 in
set_option maxHeartbeats 8000000 in
theorem unseal_c (s box u : ByteArray) (x y : Int) (i : Bool) (hs : s.size ≤ 1048576) (hu : u.size ≤ 1048576) (hx : 0 ≤ x ∧ x < 18446744073709551616) (hy : 0 ≤ y ∧ y < 18446744073709551616) (w : World) (hG : G w) :
    Calls Tryz.prog 33 #[.string s, .string box, .agg #[.int .u64 x, .int .u64 y, .bool i], .string u] w fun e w' => e = .returned (.tuple #[.int .u64 (unsealV s box x y i u).1, .string (unsealV s box x y i u).2.1, .bool (unsealV s box x y i u).2.2]) ∧ Below w.heap.size w w' := by
  refine ve_fn (args := [.string s, .string box, .agg #[.int .u64 x, .int .u64 y, .bool i], .string u]) Tryz.func33 rfl Tryz.ntmps33 rfl (good (Γ := fun W => G W) (fun W hb => G_below hb hG)) ?_
  unfold unsealV
  by_cases h : box.size = 48
  rotate_left
  · rw [if_neg h]
    have b1 : ((box.size : Int) != 48) = true := by rw [bne_iff_ne]; omega
    repeat' (first | refine rbt ?_ | refine rbf ?_ | refine wn ?_ | refine wq ?_ | refine wc_plain ?_ | refine wc_draw ?_ | refine rZ ?_ | refine rD ?_ | refine ve8 ?_ | refine ve4 ?_ | refine ve3 ?_ | refine ve1 ?_ | refine ve2 ?_ | refine ve5 ?_ | refine ve6 ?_ | refine ve7 ?_ | refine ve9 ?_ | refine rA ?_ | refine rE ?_ | refine rC ?_ | refine rB ?_ | refine rG ?_ | refine rH ?_ | refine rI ?_ | refine rJ ?_ | refine rcb ?_ | refine wb ?_ | refine wk ?_ | refine we ?_ | exact wt | refine wr ?_ | refine rr1 ?_ | refine rr2 ?_ | exact fr | exact fe | refine wTs ?_ | refine wFs ?_ | refine rof ?_ | refine rof0 ?_)
  rw [if_pos h]
  have b1 : ((box.size : Int) != 48) = false := by rw [bne_eq_false_iff_eq]; omega
  have b2 : (16 : Int) ≤ box.size := by omega
  have hz := ext_size box h
  have hS : ∀ w, G w → Calls Tryz.prog 35 #[.string s, .string (box.extract 0 16), .agg #[.int .u64 x, .int .u64 y, .bool i], .string u] w _ := fun w hG => seal_c s (box.extract 0 16) u x y i hs (by omega) hu hx hy w hG
  have hC : ∀ w, G w → Calls Tryz.prog 72 #[.string s, .string (box.extract 0 16)] w _ := fun w hG => secrets_c s (box.extract 0 16) hs (by omega) w hG
  generalize sealV s (box.extract 0 16) x y i u = V at *
  generalize pvt s (box.extract 0 16) = q at *
  obtain ⟨v1, ⟨v2, v3, v4⟩, v5, v6, v7⟩ := V
  obtain ⟨q1, q2⟩ := q
  dsimp only [sealR] at hS hC ⊢
  clear hz h
  cases v7 with
  | false =>
    rw [if_neg (by decide)]
    repeat' (first | refine rbt ?_ | refine rbf ?_ | refine wn ?_ | refine wq ?_ | refine wc_plain ?_ | refine wc_draw ?_ | refine rZ ?_ | refine rD ?_ | refine ve8 ?_ | refine ve4 ?_ | refine ve3 ?_ | refine ve1 ?_ | refine ve2 ?_ | refine ve5 ?_ | refine ve6 ?_ | refine ve7 ?_ | refine ve9 ?_ | refine rA ?_ | refine rE ?_ | refine rC ?_ | refine rB ?_ | refine rG ?_ | refine rH ?_ | refine rI ?_ | refine rJ ?_ | refine rcb ?_ | refine rsh ?_ | refine rc (fun w_ hΓ => hS w_ hΓ) ?_ | refine rc (fun w_ hΓ => hC w_ hΓ) ?_ | refine wb ?_ | refine wk ?_ | refine we ?_ | exact wt | refine wr ?_ | refine rr1 ?_ | refine rr2 ?_ | exact fr | exact fe | refine wTs ?_ | refine wFs ?_ | refine rof ?_ | refine rof0 ?_)
  | true =>
    rw [if_pos rfl]
    by_cases h5 : v5.toList = box.toList
    · rw [if_pos h5]
      have b3 : (!(v5.toList == box.toList)) = false := by rw [h5]; simp
      clear h5
      repeat' (first | refine rbt ?_ | refine rbf ?_ | refine wn ?_ | refine wq ?_ | refine wc_plain ?_ | refine wc_draw ?_ | refine rZ ?_ | refine rD ?_ | refine ve8 ?_ | refine ve4 ?_ | refine ve3 ?_ | refine ve1 ?_ | refine ve2 ?_ | refine ve5 ?_ | refine ve6 ?_ | refine ve7 ?_ | refine ve9 ?_ | refine rA ?_ | refine rE ?_ | refine rC ?_ | refine rB ?_ | refine rG ?_ | refine rH ?_ | refine rI ?_ | refine rJ ?_ | refine rcb ?_ | refine rsh ?_ | refine rc (fun w_ hΓ => hS w_ hΓ) ?_ | refine rc (fun w_ hΓ => hC w_ hΓ) ?_ | refine wb ?_ | refine wk ?_ | refine we ?_ | exact wt | refine wr ?_ | refine rr1 ?_ | refine rr2 ?_ | exact fr | exact fe | refine wTs ?_ | refine wFs ?_ | refine rof ?_ | refine rof0 ?_)
    · rw [if_neg h5]
      have b3 : (!(v5.toList == box.toList)) = true := by simpa using h5
      clear h5
      repeat' (first | refine rbt ?_ | refine rbf ?_ | refine wn ?_ | refine wq ?_ | refine wc_plain ?_ | refine wc_draw ?_ | refine rZ ?_ | refine rD ?_ | refine ve8 ?_ | refine ve4 ?_ | refine ve3 ?_ | refine ve1 ?_ | refine ve2 ?_ | refine ve5 ?_ | refine ve6 ?_ | refine ve7 ?_ | refine ve9 ?_ | refine rA ?_ | refine rE ?_ | refine rC ?_ | refine rB ?_ | refine rG ?_ | refine rH ?_ | refine rI ?_ | refine rJ ?_ | refine rcb ?_ | refine rsh ?_ | refine rc (fun w_ hΓ => hS w_ hΓ) ?_ | refine rc (fun w_ hΓ => hC w_ hΓ) ?_ | refine wb ?_ | refine wk ?_ | refine we ?_ | exact wt | refine wr ?_ | refine rr1 ?_ | refine rr2 ?_ | exact fr | exact fe | refine wTs ?_ | refine wFs ?_ | refine rof ?_ | refine rof0 ?_)
end Go.Proofs.YtgdcafbdkidamaaGreatDoor.Sl
end
section
namespace Go.Proofs.YtgdcafbdkidamaaGreatDoor.VaUnseal
open Go Go.RowKit Go.Proofs.YtgdcafbdkidamaaGreatDoorW.PrintWords Go.Proofs.YtgdcafbdkidamaaGreatDoorW.PrintLast Go.Proofs.YtgdcafbdkidamaaGreatDoorW.PrintMore Go.Proofs.YtgdcafbdkidamaaGreatDoor.Ve Go.Proofs.YtgdcafbdkidamaaGreatDoor.VeT Go.Proofs.YtgdcafbdkidamaaGreatDoor.VeE Go.Proofs.YtgdcafbdkidamaaGreatDoor.G3 Go.Proofs.YtgdcafbdkidamaaGreatDoor.B Go.Proofs.YtgdcafbdkidamaaGreatDoor.C Go.Proofs.YtgdcafbdkidamaaGreatDoor.Sl
set_option linter.unusedVariables false
set_option linter.unusedSimpArgs false
def laws_FnExactUnseal.f (s n : ByteArray) (x y : Int) (i : Bool) (u : ByteArray) : Option Bool := if (0 ≤ x ∧ x < 18446744073709551616) ∧ 0 ≤ y ∧ y < 18446744073709551616 then some true else none
set_option maxRecDepth 100000 in
set_option maxHeartbeats 8000000 in
theorem laws_FnExactUnseal.calls (s n : ByteArray) (x y : Int) (i : Bool) (u : ByteArray) (r : Bool) (w : World) (hG : G w) (h : laws_FnExactUnseal.f s n x y i u = some r) :
    Calls Tryz.prog 7 #[.string s, .string n, .agg #[.int .u64 x, .int .u64 y, .bool i], .string u] w fun e w' => e = .returned (.bool r) ∧ Below w.heap.size w w' := by
  unfold laws_FnExactUnseal.f at h
  split at h
  case isFalse => cases h
  rename_i hh
  obtain ⟨hx, hy⟩ := hh
  obtain rfl := Option.some.inj h
  clear h
  refine ve_fn (args := [.string s, .string n, .agg #[.int .u64 x, .int .u64 y, .bool i], .string u]) Tryz.func7 rfl Tryz.ntmps7 rfl (good (Γ := fun W => G W) (fun W hb => G_below hb hG)) ?_
  by_cases hs : (s.size : Int) > 1048576
  · clear hx hy
    repeat' (first | refine rbt ?_ | refine rbf ?_ | refine wn ?_ | refine wq ?_ | refine wc_plain ?_ | refine wc_draw ?_ | refine rZ ?_ | refine rD ?_ | refine ve8 ?_ | refine ve4 ?_ | refine ve3 ?_ | refine ve1 ?_ | refine ve2 ?_ | refine ve5 ?_ | refine ve6 ?_ | refine ve7 ?_ | refine ve9 ?_ | refine rA ?_ | refine rE ?_ | refine rC ?_ | refine rB ?_ | refine rG ?_ | refine rH ?_ | refine rI ?_ | refine rJ ?_ | refine rcb ?_ | refine wb ?_ | refine wk ?_ | refine we ?_ | exact wt | refine wr ?_ | refine rr1 ?_ | refine rr2 ?_ | exact fr | exact fe | refine wTs ?_ | refine wFs ?_ | refine rof ?_ | refine rof0 ?_)
  by_cases hn : (n.size : Int) > 1048576
  · clear hx hy
    repeat' (first | refine rbt ?_ | refine rbf ?_ | refine wn ?_ | refine wq ?_ | refine wc_plain ?_ | refine wc_draw ?_ | refine rZ ?_ | refine rD ?_ | refine ve8 ?_ | refine ve4 ?_ | refine ve3 ?_ | refine ve1 ?_ | refine ve2 ?_ | refine ve5 ?_ | refine ve6 ?_ | refine ve7 ?_ | refine ve9 ?_ | refine rA ?_ | refine rE ?_ | refine rC ?_ | refine rB ?_ | refine rG ?_ | refine rH ?_ | refine rI ?_ | refine rJ ?_ | refine rcb ?_ | refine wb ?_ | refine wk ?_ | refine we ?_ | exact wt | refine wr ?_ | refine rr1 ?_ | refine rr2 ?_ | exact fr | exact fe | refine wTs ?_ | refine wFs ?_ | refine rof ?_ | refine rof0 ?_)
  by_cases hu : (u.size : Int) > 1048576
  · clear hx hy
    repeat' (first | refine rbt ?_ | refine rbf ?_ | refine wn ?_ | refine wq ?_ | refine wc_plain ?_ | refine wc_draw ?_ | refine rZ ?_ | refine rD ?_ | refine ve8 ?_ | refine ve4 ?_ | refine ve3 ?_ | refine ve1 ?_ | refine ve2 ?_ | refine ve5 ?_ | refine ve6 ?_ | refine ve7 ?_ | refine ve9 ?_ | refine rA ?_ | refine rE ?_ | refine rC ?_ | refine rB ?_ | refine rG ?_ | refine rH ?_ | refine rI ?_ | refine rJ ?_ | refine rcb ?_ | refine wb ?_ | refine wk ?_ | refine we ?_ | exact wt | refine wr ?_ | refine rr1 ?_ | refine rr2 ?_ | exact fr | exact fe | refine wTs ?_ | refine wFs ?_ | refine rof ?_ | refine rof0 ?_)
  have hS : ∀ w, G w → Calls Tryz.prog 33 #[.string s, .string n, .agg #[.int .u64 x, .int .u64 y, .bool i], .string u] w _ := fun w hG => unseal_c s n u x y i (by omega) (by omega) hx hy w hG
  have hP : ∀ w, Calls Tryz.prog 32 #[.string s, .string n, .agg #[.int .u64 x, .int .u64 y, .bool i], .string u] w _ := fun w => spec_Unseal.calls 702001 s n x y i u _ _ _ w (unseal_spec s n u x y i (by omega) (by omega) hx hy (Nat.le_refl _))
  have hT : ∀ w, Calls Tryz.prog 13 #[.agg #[.int .u64 x, .int .u64 y, .bool i]] w _ := fun w => laws_toPoint.calls x y i x y i w rfl
  generalize unsealV s n x y i u = V at *
  obtain ⟨v1, v2, v3⟩ := V
  dsimp only at hS hP
  have b0 : (v1 != v1) = false := by simp
  have b1 : (!(v2.toList == v2.toList)) = false := by simp
  have b2 : (!(v3 == v3)) = false := by simp
  clear hx hy
  repeat' (first | refine rbt ?_ | refine rbf ?_ | refine wn ?_ | refine wq ?_ | refine wc_plain ?_ | refine wc_draw ?_ | refine rZ ?_ | refine rD ?_ | refine ve8 ?_ | refine ve4 ?_ | refine ve3 ?_ | refine ve1 ?_ | refine ve2 ?_ | refine ve5 ?_ | refine ve6 ?_ | refine ve7 ?_ | refine ve9 ?_ | refine rA ?_ | refine rE ?_ | refine rC ?_ | refine rB ?_ | refine rG ?_ | refine rH ?_ | refine rI ?_ | refine rJ ?_ | refine rcb ?_ | refine rc (fun w_ hΓ => hS w_ hΓ) ?_ | refine rc (fun w_ hΓ => hP w_) ?_ | refine rc (fun w_ hΓ => hT w_) ?_ | refine wb ?_ | refine wk ?_ | refine we ?_ | exact wt | refine wr ?_ | refine rr1 ?_ | refine rr2 ?_ | exact fr | exact fe | refine wTs ?_ | refine wFs ?_ | refine rof ?_ | refine rof0 ?_)
end Go.Proofs.YtgdcafbdkidamaaGreatDoor.VaUnseal
namespace Go.Proofs.YtgdcafbdkidamaaGreatDoor.Pure
open Go Go.RowKit Go.Proofs.YtgdcafbdkidamaaGreatDoor.VaUnseal
theorem FnExactUnseal (s n : ByteArray) (x y : Int) (i : Bool) (u : ByteArray) (_hs : s.size ≤ 140737488351232) (_hn : n.size ≤ 140737488351232) (hx : (Lit.int .u64 x).wf = true) (hy : (Lit.int .u64 y).wf = true) (_hu : u.size ≤ 140737488351232) : ∃ _k : Nat, laws_FnExactUnseal.f s n x y i u = some true := by
  have := bounds_u64 hx
  have := bounds_u64 hy
  refine ⟨0, ?_⟩
  unfold laws_FnExactUnseal.f
  rw [if_pos (by omega)]
end Go.Proofs.YtgdcafbdkidamaaGreatDoor.Pure
end
