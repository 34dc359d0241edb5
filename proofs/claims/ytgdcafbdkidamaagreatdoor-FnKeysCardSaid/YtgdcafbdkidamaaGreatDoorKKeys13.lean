/- What the proof of FnKeys leans on, part 13: cut out of the texts of this claim's making by a program (wip/tools/pack.py). -/
import Derived.Test.YtgdcafbdkidamaaGreatDoorKKeys3
import Derived.Test.YtgdcafbdkidamaaGreatDoorKKeys8
import Derived.Test.YtgdcafbdkidamaaGreatDoorKKeys10
import Derived.Test.YtgdcafbdkidamaaGreatDoorKKeys11
import Derived.Test.YtgdcafbdkidamaaGreatDoorKKeys12
import Derived.KernelRfl
import Derived.Test.YtgdcafbdkidamaaGreatDoorProg
import Derived.WalkKit
section
namespace Go.Proofs.YtgdcafbdkidamaaGreatDoor.B
open Go.Proofs.YtgdcafbdkidamaaGreatDoor.Sq Go.RowKit Go.Proofs.YtgdcafbdkidamaaGreatDoor.H0 Go.Proofs.YtgdcafbdkidamaaGreatDoor.F0 Go.Proofs.YtgdcafbdkidamaaGreatDoorW.PrintWords Go.Proofs.YtgdcafbdkidamaaGreatDoorW.PrintLast Go.Proofs.YtgdcafbdkidamaaGreatDoorW.PrintMore Go.Proofs.YtgdcafbdkidamaaGreatDoor.Ve Go.Proofs.YtgdcafbdkidamaaGreatDoor.VeT Go.Proofs.YtgdcafbdkidamaaGreatDoor.VeE
attribute [local go_sem high] field_num_fieldP   -- for this text's walks alone
attribute [local go_sem] max2_int min2_int max_two min_two max_three min_three max_four min_four   -- for this text's walks alone
set_option linter.unusedVariables false
set_option linter.unusedSimpArgs false
def spec_l2Add.f (a0 : Int) (a1 : Int) (a2 : Int) : Option (Int) := if a0 ≥ (IntKind.u64.wrap (a2 - a1)) then (some (IntKind.u64.wrap (a0 - (IntKind.u64.wrap (a2 - a1))))) else (some (IntKind.u64.wrap (a0 + a1)))
set_option maxHeartbeats 8000000 in
set_option maxRecDepth 100000 in
theorem spec_l2Add.calls (a0 : Int) (a1 : Int) (a2 : Int) (r : Int) (w : World) (h : spec_l2Add.f a0 a1 a2 = some r) :
    Calls Tryz.prog 57 #[.int .u64 a0, .int .u64 a1, .int .u64 a2] w fun e w' => e = .returned (.int .u64 r) ∧ Drawn0 w w' := by
  have H : (if a0 ≥ (IntKind.u64.wrap (a2 - a1)) then (some (IntKind.u64.wrap (a0 - (IntKind.u64.wrap (a2 - a1))))) else (some (IntKind.u64.wrap (a0 + a1)))) = some r := h
  clear h
  by_cases c4 : a0 ≥ (IntKind.u64.wrap (a2 - a1))
  · rw [if_pos c4] at H
    have c4b0 := decide_eq_true c4
    clear c4
    obtain rfl := Option.some.inj H
    go_enter Tryz.func57, Tryz.ntmps57
    go_wp2
    go_ret
    exact ⟨by first | rfl | (simp; done) | (simp [*]; done), by repeat (first | exact Drawn0.refl _ | apply Drawn0.step)⟩
  rw [if_neg c4] at H
  have c4b0 := decide_eq_false c4
  clear c4
  obtain rfl := Option.some.inj H
  go_enter Tryz.func57, Tryz.ntmps57
  go_wp2
  go_ret
  exact ⟨by first | rfl | (simp; done) | (simp [*]; done), by repeat (first | exact Drawn0.refl _ | apply Drawn0.step)⟩

def spec_l2Times.f (a0 : Int) (a1 : Int) : Option (Int) := (spec_l2Add.f (IntKind.u64.wrap ((IntKind.u64.wrap ((IntKind.u64.wrap ((IntKind.u64.wrap ((IntKind.u64.wrap ((IntKind.u64.wrap (Int.tdiv a0 4294967296)) * (IntKind.u64.wrap (Int.tdiv a1 4294967296)))) + (IntKind.u64.wrap (Int.tdiv (IntKind.u64.wrap ((IntKind.u64.wrap ((IntKind.u64.wrap (Int.tdiv a0 4294967296)) * (Int.tmod a1 4294967296))) + (IntKind.u64.wrap (Int.tdiv (IntKind.u64.wrap ((Int.tmod a0 4294967296) * (Int.tmod a1 4294967296))) 4294967296)))) 4294967296)))) + (IntKind.u64.wrap (Int.tdiv (IntKind.u64.wrap ((IntKind.u64.wrap ((Int.tmod a0 4294967296) * (IntKind.u64.wrap (Int.tdiv a1 4294967296)))) + (Int.tmod (IntKind.u64.wrap ((IntKind.u64.wrap ((IntKind.u64.wrap (Int.tdiv a0 4294967296)) * (Int.tmod a1 4294967296))) + (IntKind.u64.wrap (Int.tdiv (IntKind.u64.wrap ((Int.tmod a0 4294967296) * (Int.tmod a1 4294967296))) 4294967296)))) 4294967296))) 4294967296)))) * 8)) + (IntKind.u64.wrap (Int.tdiv (IntKind.u64.wrap ((IntKind.u64.wrap ((IntKind.u64.wrap ((IntKind.u64.wrap ((Int.tmod a0 4294967296) * (IntKind.u64.wrap (Int.tdiv a1 4294967296)))) + (Int.tmod (IntKind.u64.wrap ((IntKind.u64.wrap ((IntKind.u64.wrap (Int.tdiv a0 4294967296)) * (Int.tmod a1 4294967296))) + (IntKind.u64.wrap (Int.tdiv (IntKind.u64.wrap ((Int.tmod a0 4294967296) * (Int.tmod a1 4294967296))) 4294967296)))) 4294967296))) * 4294967296)) + (Int.tmod (IntKind.u64.wrap ((Int.tmod a0 4294967296) * (Int.tmod a1 4294967296))) 4294967296))) 2305843009213693952)))) (Int.tmod (Int.tmod (IntKind.u64.wrap ((IntKind.u64.wrap ((IntKind.u64.wrap ((IntKind.u64.wrap ((Int.tmod a0 4294967296) * (IntKind.u64.wrap (Int.tdiv a1 4294967296)))) + (Int.tmod (IntKind.u64.wrap ((IntKind.u64.wrap ((IntKind.u64.wrap (Int.tdiv a0 4294967296)) * (Int.tmod a1 4294967296))) + (IntKind.u64.wrap (Int.tdiv (IntKind.u64.wrap ((Int.tmod a0 4294967296) * (Int.tmod a1 4294967296))) 4294967296)))) 4294967296))) * 4294967296)) + (Int.tmod (IntKind.u64.wrap ((Int.tmod a0 4294967296) * (Int.tmod a1 4294967296))) 4294967296))) 2305843009213693952) 2305843009213693951) 2305843009213693951).bind fun t101 => (some t101)
set_option maxHeartbeats 8000000 in
set_option maxRecDepth 100000 in
theorem spec_l2Times.calls (a0 : Int) (a1 : Int) (r : Int) (w : World) (h : spec_l2Times.f a0 a1 = some r) :
    Calls Tryz.prog 107 #[.int .u64 a0, .int .u64 a1] w fun e w' => e = .returned (.int .u64 r) ∧ Drawn0 w w' := by
  have H : ((spec_l2Add.f (IntKind.u64.wrap ((IntKind.u64.wrap ((IntKind.u64.wrap ((IntKind.u64.wrap ((IntKind.u64.wrap ((IntKind.u64.wrap (Int.tdiv a0 4294967296)) * (IntKind.u64.wrap (Int.tdiv a1 4294967296)))) + (IntKind.u64.wrap (Int.tdiv (IntKind.u64.wrap ((IntKind.u64.wrap ((IntKind.u64.wrap (Int.tdiv a0 4294967296)) * (Int.tmod a1 4294967296))) + (IntKind.u64.wrap (Int.tdiv (IntKind.u64.wrap ((Int.tmod a0 4294967296) * (Int.tmod a1 4294967296))) 4294967296)))) 4294967296)))) + (IntKind.u64.wrap (Int.tdiv (IntKind.u64.wrap ((IntKind.u64.wrap ((Int.tmod a0 4294967296) * (IntKind.u64.wrap (Int.tdiv a1 4294967296)))) + (Int.tmod (IntKind.u64.wrap ((IntKind.u64.wrap ((IntKind.u64.wrap (Int.tdiv a0 4294967296)) * (Int.tmod a1 4294967296))) + (IntKind.u64.wrap (Int.tdiv (IntKind.u64.wrap ((Int.tmod a0 4294967296) * (Int.tmod a1 4294967296))) 4294967296)))) 4294967296))) 4294967296)))) * 8)) + (IntKind.u64.wrap (Int.tdiv (IntKind.u64.wrap ((IntKind.u64.wrap ((IntKind.u64.wrap ((IntKind.u64.wrap ((Int.tmod a0 4294967296) * (IntKind.u64.wrap (Int.tdiv a1 4294967296)))) + (Int.tmod (IntKind.u64.wrap ((IntKind.u64.wrap ((IntKind.u64.wrap (Int.tdiv a0 4294967296)) * (Int.tmod a1 4294967296))) + (IntKind.u64.wrap (Int.tdiv (IntKind.u64.wrap ((Int.tmod a0 4294967296) * (Int.tmod a1 4294967296))) 4294967296)))) 4294967296))) * 4294967296)) + (Int.tmod (IntKind.u64.wrap ((Int.tmod a0 4294967296) * (Int.tmod a1 4294967296))) 4294967296))) 2305843009213693952)))) (Int.tmod (Int.tmod (IntKind.u64.wrap ((IntKind.u64.wrap ((IntKind.u64.wrap ((IntKind.u64.wrap ((Int.tmod a0 4294967296) * (IntKind.u64.wrap (Int.tdiv a1 4294967296)))) + (Int.tmod (IntKind.u64.wrap ((IntKind.u64.wrap ((IntKind.u64.wrap (Int.tdiv a0 4294967296)) * (Int.tmod a1 4294967296))) + (IntKind.u64.wrap (Int.tdiv (IntKind.u64.wrap ((Int.tmod a0 4294967296) * (Int.tmod a1 4294967296))) 4294967296)))) 4294967296))) * 4294967296)) + (Int.tmod (IntKind.u64.wrap ((Int.tmod a0 4294967296) * (Int.tmod a1 4294967296))) 4294967296))) 2305843009213693952) 2305843009213693951) 2305843009213693951).bind fun t101 => (some t101)) = some r := h
  clear h
  replace H := Option.bind_eq_some_iff.mp H
  obtain ⟨t101, A30, H⟩ := H
  replace H : (some t101) = some r := H
  have A3 := Aside0.mk A30
  clear A30
  obtain rfl := Option.some.inj H
  go_enter Tryz.func107, Tryz.ntmps107
  go_wp2_with (first | ((with_reducible refine gate_callee (f := 57) rfl ?_); refine goesL_ (some 59) rfl rfl Tryz.func57 (by kernel_rfl) rfl #[.int .u64 (IntKind.u64.wrap ((IntKind.u64.wrap ((IntKind.u64.wrap ((IntKind.u64.wrap ((IntKind.u64.wrap ((IntKind.u64.wrap (Int.tdiv a0 4294967296)) * (IntKind.u64.wrap (Int.tdiv a1 4294967296)))) + (IntKind.u64.wrap (Int.tdiv (IntKind.u64.wrap ((IntKind.u64.wrap ((IntKind.u64.wrap (Int.tdiv a0 4294967296)) * (Int.tmod a1 4294967296))) + (IntKind.u64.wrap (Int.tdiv (IntKind.u64.wrap ((Int.tmod a0 4294967296) * (Int.tmod a1 4294967296))) 4294967296)))) 4294967296)))) + (IntKind.u64.wrap (Int.tdiv (IntKind.u64.wrap ((IntKind.u64.wrap ((Int.tmod a0 4294967296) * (IntKind.u64.wrap (Int.tdiv a1 4294967296)))) + (Int.tmod (IntKind.u64.wrap ((IntKind.u64.wrap ((IntKind.u64.wrap (Int.tdiv a0 4294967296)) * (Int.tmod a1 4294967296))) + (IntKind.u64.wrap (Int.tdiv (IntKind.u64.wrap ((Int.tmod a0 4294967296) * (Int.tmod a1 4294967296))) 4294967296)))) 4294967296))) 4294967296)))) * 8)) + (IntKind.u64.wrap (Int.tdiv (IntKind.u64.wrap ((IntKind.u64.wrap ((IntKind.u64.wrap ((IntKind.u64.wrap ((Int.tmod a0 4294967296) * (IntKind.u64.wrap (Int.tdiv a1 4294967296)))) + (Int.tmod (IntKind.u64.wrap ((IntKind.u64.wrap ((IntKind.u64.wrap (Int.tdiv a0 4294967296)) * (Int.tmod a1 4294967296))) + (IntKind.u64.wrap (Int.tdiv (IntKind.u64.wrap ((Int.tmod a0 4294967296) * (Int.tmod a1 4294967296))) 4294967296)))) 4294967296))) * 4294967296)) + (Int.tmod (IntKind.u64.wrap ((Int.tmod a0 4294967296) * (Int.tmod a1 4294967296))) 4294967296))) 2305843009213693952)))), .int .u64 (Int.tmod (Int.tmod (IntKind.u64.wrap ((IntKind.u64.wrap ((IntKind.u64.wrap ((IntKind.u64.wrap ((Int.tmod a0 4294967296) * (IntKind.u64.wrap (Int.tdiv a1 4294967296)))) + (Int.tmod (IntKind.u64.wrap ((IntKind.u64.wrap ((IntKind.u64.wrap (Int.tdiv a0 4294967296)) * (Int.tmod a1 4294967296))) + (IntKind.u64.wrap (Int.tdiv (IntKind.u64.wrap ((Int.tmod a0 4294967296) * (Int.tmod a1 4294967296))) 4294967296)))) 4294967296))) * 4294967296)) + (Int.tmod (IntKind.u64.wrap ((Int.tmod a0 4294967296) * (Int.tmod a1 4294967296))) 4294967296))) 2305843009213693952) 2305843009213693951), .int .u64 2305843009213693951] rfl ga_ ?_; (with_reducible refine (spec_l2Add.calls (IntKind.u64.wrap ((IntKind.u64.wrap ((IntKind.u64.wrap ((IntKind.u64.wrap ((IntKind.u64.wrap ((IntKind.u64.wrap (Int.tdiv a0 4294967296)) * (IntKind.u64.wrap (Int.tdiv a1 4294967296)))) + (IntKind.u64.wrap (Int.tdiv (IntKind.u64.wrap ((IntKind.u64.wrap ((IntKind.u64.wrap (Int.tdiv a0 4294967296)) * (Int.tmod a1 4294967296))) + (IntKind.u64.wrap (Int.tdiv (IntKind.u64.wrap ((Int.tmod a0 4294967296) * (Int.tmod a1 4294967296))) 4294967296)))) 4294967296)))) + (IntKind.u64.wrap (Int.tdiv (IntKind.u64.wrap ((IntKind.u64.wrap ((Int.tmod a0 4294967296) * (IntKind.u64.wrap (Int.tdiv a1 4294967296)))) + (Int.tmod (IntKind.u64.wrap ((IntKind.u64.wrap ((IntKind.u64.wrap (Int.tdiv a0 4294967296)) * (Int.tmod a1 4294967296))) + (IntKind.u64.wrap (Int.tdiv (IntKind.u64.wrap ((Int.tmod a0 4294967296) * (Int.tmod a1 4294967296))) 4294967296)))) 4294967296))) 4294967296)))) * 8)) + (IntKind.u64.wrap (Int.tdiv (IntKind.u64.wrap ((IntKind.u64.wrap ((IntKind.u64.wrap ((IntKind.u64.wrap ((Int.tmod a0 4294967296) * (IntKind.u64.wrap (Int.tdiv a1 4294967296)))) + (Int.tmod (IntKind.u64.wrap ((IntKind.u64.wrap ((IntKind.u64.wrap (Int.tdiv a0 4294967296)) * (Int.tmod a1 4294967296))) + (IntKind.u64.wrap (Int.tdiv (IntKind.u64.wrap ((Int.tmod a0 4294967296) * (Int.tmod a1 4294967296))) 4294967296)))) 4294967296))) * 4294967296)) + (Int.tmod (IntKind.u64.wrap ((Int.tmod a0 4294967296) * (Int.tmod a1 4294967296))) 4294967296))) 2305843009213693952)))) (Int.tmod (Int.tmod (IntKind.u64.wrap ((IntKind.u64.wrap ((IntKind.u64.wrap ((IntKind.u64.wrap ((Int.tmod a0 4294967296) * (IntKind.u64.wrap (Int.tdiv a1 4294967296)))) + (Int.tmod (IntKind.u64.wrap ((IntKind.u64.wrap ((IntKind.u64.wrap (Int.tdiv a0 4294967296)) * (Int.tmod a1 4294967296))) + (IntKind.u64.wrap (Int.tdiv (IntKind.u64.wrap ((Int.tmod a0 4294967296) * (Int.tmod a1 4294967296))) 4294967296)))) 4294967296))) * 4294967296)) + (Int.tmod (IntKind.u64.wrap ((Int.tmod a0 4294967296) * (Int.tmod a1 4294967296))) 4294967296))) 2305843009213693952) 2305843009213693951) 2305843009213693951 t101 _ A3.out).mono ?_); rintro e w' ⟨rfl, ⟨nd, rfl⟩⟩; refine ⟨_, rfl, ?_⟩))
  go_ret
  exact ⟨by first | rfl | (simp; done) | (simp [*]; done), by repeat (first | exact Drawn0.refl _ | apply Drawn0.step)⟩

def spec_l3Minus.f (a0 : Int) (a1 : Int) : Option (Int) := (spec_l2Add.f a0 (Int.tmod (IntKind.u64.wrap (2305843009213693951 - a1)) 2305843009213693951) 2305843009213693951).bind fun t102 => (some t102)
set_option maxHeartbeats 8000000 in
set_option maxRecDepth 100000 in
theorem spec_l3Minus.calls (a0 : Int) (a1 : Int) (r : Int) (w : World) (h : spec_l3Minus.f a0 a1 = some r) :
    Calls Tryz.prog 112 #[.int .u64 a0, .int .u64 a1] w fun e w' => e = .returned (.int .u64 r) ∧ Drawn0 w w' := by
  have H : ((spec_l2Add.f a0 (Int.tmod (IntKind.u64.wrap (2305843009213693951 - a1)) 2305843009213693951) 2305843009213693951).bind fun t102 => (some t102)) = some r := h
  clear h
  replace H := Option.bind_eq_some_iff.mp H
  obtain ⟨t102, A30, H⟩ := H
  replace H : (some t102) = some r := H
  have A3 := Aside0.mk A30
  clear A30
  obtain rfl := Option.some.inj H
  go_enter Tryz.func112, Tryz.ntmps112
  go_wp2_with (first | ((with_reducible refine gate_callee (f := 57) rfl ?_); refine goesL_ (some 9) rfl rfl Tryz.func57 (by kernel_rfl) rfl #[.int .u64 a0, .int .u64 (Int.tmod (IntKind.u64.wrap (2305843009213693951 - a1)) 2305843009213693951), .int .u64 2305843009213693951] rfl ga_ ?_; (with_reducible refine (spec_l2Add.calls a0 (Int.tmod (IntKind.u64.wrap (2305843009213693951 - a1)) 2305843009213693951) 2305843009213693951 t102 _ A3.out).mono ?_); rintro e w' ⟨rfl, ⟨nd, rfl⟩⟩; refine ⟨_, rfl, ?_⟩))
  go_ret
  exact ⟨by first | rfl | (simp; done) | (simp [*]; done), by repeat (first | exact Drawn0.refl _ | apply Drawn0.step)⟩

def spec_l3Right.f (a0 : Int) : Option (Int) := (spec_l2Times.f a0 a0).bind fun t103 => ((spec_l2Times.f t103 a0).bind fun t104 => ((spec_l2Times.f 3 a0).bind fun t105 => ((spec_l3Minus.f t104 t105).bind fun t106 => ((spec_l2Add.f t106 111 2305843009213693951).bind fun t107 => (some t107)))))
set_option maxHeartbeats 8000000 in
set_option maxRecDepth 100000 in
theorem spec_l3Right.calls (a0 : Int) (r : Int) (w : World) (h : spec_l3Right.f a0 = some r) :
    Calls Tryz.prog 114 #[.int .u64 a0] w fun e w' => e = .returned (.int .u64 r) ∧ Drawn0 w w' := by
  have H : ((spec_l2Times.f a0 a0).bind fun t103 => ((spec_l2Times.f t103 a0).bind fun t104 => ((spec_l2Times.f 3 a0).bind fun t105 => ((spec_l3Minus.f t104 t105).bind fun t106 => ((spec_l2Add.f t106 111 2305843009213693951).bind fun t107 => (some t107)))))) = some r := h
  clear h
  replace H := Option.bind_eq_some_iff.mp H
  obtain ⟨t103, A20, H⟩ := H
  try dsimp only at H
  have A2 := Aside0.mk A20
  clear A20
  replace H := Option.bind_eq_some_iff.mp H
  obtain ⟨t104, A30, H⟩ := H
  try dsimp only at H
  have A3 := Aside0.mk A30
  clear A30
  replace H := Option.bind_eq_some_iff.mp H
  obtain ⟨t105, A40, H⟩ := H
  try dsimp only at H
  have A4 := Aside0.mk A40
  clear A40
  replace H := Option.bind_eq_some_iff.mp H
  obtain ⟨t106, A50, H⟩ := H
  try dsimp only at H
  have A5 := Aside0.mk A50
  clear A50
  replace H := Option.bind_eq_some_iff.mp H
  obtain ⟨t107, A60, H⟩ := H
  replace H : (some t107) = some r := H
  have A6 := Aside0.mk A60
  clear A60
  obtain rfl := Option.some.inj H
  go_enter Tryz.func114, Tryz.ntmps114
  go_wp2_with (first | ((with_reducible refine gate_callee (f := 107) rfl ?_); refine goesL_ (some 6) rfl rfl Tryz.func107 (by kernel_rfl) rfl #[.int .u64 a0, .int .u64 a0] rfl ga_ ?_; (with_reducible refine (spec_l2Times.calls a0 a0 t103 _ A2.out).mono ?_); rintro e w' ⟨rfl, ⟨nd, rfl⟩⟩; refine ⟨_, rfl, ?_⟩) | ((with_reducible refine gate_callee (f := 107) rfl ?_); refine goesL_ (some 8) rfl rfl Tryz.func107 (by kernel_rfl) rfl #[.int .u64 t103, .int .u64 a0] rfl ga_ ?_; (with_reducible refine (spec_l2Times.calls t103 a0 t104 _ A3.out).mono ?_); rintro e w' ⟨rfl, ⟨nd, rfl⟩⟩; refine ⟨_, rfl, ?_⟩) | ((with_reducible refine gate_callee (f := 107) rfl ?_); refine goesL_ (some 11) rfl rfl Tryz.func107 (by kernel_rfl) rfl #[.int .u64 3, .int .u64 a0] rfl ga_ ?_; (with_reducible refine (spec_l2Times.calls 3 a0 t105 _ A4.out).mono ?_); rintro e w' ⟨rfl, ⟨nd, rfl⟩⟩; refine ⟨_, rfl, ?_⟩) | ((with_reducible refine gate_callee (f := 112) rfl ?_); refine goesL_ (some 12) rfl rfl Tryz.func112 (by kernel_rfl) rfl #[.int .u64 t104, .int .u64 t105] rfl ga_ ?_; (with_reducible refine (spec_l3Minus.calls t104 t105 t106 _ A5.out).mono ?_); rintro e w' ⟨rfl, ⟨nd, rfl⟩⟩; refine ⟨_, rfl, ?_⟩) | ((with_reducible refine gate_callee (f := 57) rfl ?_); refine goesL_ (some 13) rfl rfl Tryz.func57 (by kernel_rfl) rfl #[.int .u64 t106, .int .u64 111, .int .u64 2305843009213693951] rfl ga_ ?_; (with_reducible refine (spec_l2Add.calls t106 111 2305843009213693951 t107 _ A6.out).mono ?_); rintro e w' ⟨rfl, ⟨nd, rfl⟩⟩; refine ⟨_, rfl, ?_⟩))
  go_ret
  exact ⟨by first | rfl | (simp; done) | (simp [*]; done), by repeat (first | exact Drawn0.refl _ | apply Drawn0.step)⟩

def spec_OnCurve.f (a0_0 : Int) (a0_1 : Int) (a0_2 : Bool) : Option (Bool) := if a0_2 = true then (if a0_0 = 0 then (some (a0_1 == 0)) else (some false)) else (if a0_0 < 2305843009213693951 then (if a0_1 < 2305843009213693951 then ((spec_l2Times.f a0_1 a0_1).bind fun t109 => ((spec_l3Right.f a0_0).bind fun t110 => (some (t109 == t110)))) else (some false)) else (some false))
set_option maxRecDepth 100000 in
set_option maxHeartbeats 4000000 in
theorem spec_OnCurve.calls (a0_0 : Int) (a0_1 : Int) (a0_2 : Bool) (r : Bool) (w : World) (h : spec_OnCurve.f a0_0 a0_1 a0_2 = some r) :
    Calls Tryz.prog 64 #[.agg #[.int .u64 a0_0, .int .u64 a0_1, .bool a0_2]] w fun e w' => e = .returned (.bool r) ∧ Below w.heap.size w w' := by
  unfold spec_OnCurve.f at h
  repeat' (first | (rw [Option.bind_eq_some_iff] at h; obtain ⟨_, _, h⟩ := h) | (split at h) | (cases h <;> fail) | (replace h := Option.some.inj h) | (have h3_ := (Prod.mk.inj h).1; replace h := (Prod.mk.inj h).2; subst h3_) | (subst h))
  all_goals try contradiction
  all_goals refine ve_fn (args := [.agg #[.int .u64 a0_0, .int .u64 a0_1, .bool a0_2]]) Tryz.func64 rfl Tryz.ntmps64 rfl (good (Γ := fun _ => True) (fun _ _ => trivial)) ?_
  all_goals repeat' (first | refine rbt ?_ | refine rbf ?_ | refine wn ?_ | refine wq ?_ | refine wc_plain ?_ | refine wc_draw ?_ | refine rZ ?_ | refine rD ?_ | refine ve8 ?_ | refine ve4 ?_ | refine ve3 ?_ | refine ve1 ?_ | refine ve2 ?_ | refine ve5 ?_ | refine ve6 ?_ | refine ve7 ?_ | refine ve9 ?_ | refine rA ?_ | refine rE ?_ | refine rC ?_ | refine rB ?_ | refine rG ?_ | refine rH ?_ | refine rI ?_ | refine rJ ?_ | refine rcb ?_ | refine rcp (Pre := spec_l2Times.f _ _ = some _) (fun hp_ w_ hΓ => drb (spec_l2Times.calls _ _ _ w_ hp_)) ?_ | refine rcp (Pre := spec_l3Right.f _ = some _) (fun hp_ w_ hΓ => drb (spec_l3Right.calls _ _ w_ hp_)) ?_ | refine rel (fun w_ hΓ => ld_zero (by first  |  exact hΓ.z  |  exact hΓ.1.z  |  exact hΓ.1  |  exact hΓ)) ?_  |  refine req (fun w_ => eq_pt w_) ?_  |  refine req (fun w_ => ne_pt w_) ?_  |  refine req (fun w_ => eq_num w_) ?_  |  refine rsh ?_  |  refine rsl_ ?_  |  refine rslh ?_ | refine wb ?_ | refine wk ?_ | refine we ?_ | exact wt | refine wr ?_ | refine rr1 ?_ | refine rr2 ?_ | exact fr | exact fe | refine wTs ?_ | refine wFs ?_ | refine rof ?_ | refine rof0 ?_)

def spec_l5Mode.f (a0 : Int) : Option (Bool) := if a0 ≥ 0 then (some (decide (a0 ≤ 2))) else (some false)
set_option maxHeartbeats 8000000 in
set_option maxRecDepth 100000 in
theorem spec_l5Mode.calls (a0 : Int) (r : Bool) (w : World) (h : spec_l5Mode.f a0 = some r) :
    Calls Tryz.prog 87 #[.int .i64 a0] w fun e w' => e = .returned (.bool r) ∧ Drawn0 w w' := by
  have H : (if a0 ≥ 0 then (some (decide (a0 ≤ 2))) else (some false)) = some r := h
  clear h
  by_cases c2 : a0 ≥ 0
  · rw [if_pos c2] at H
    have c2b0 := decide_eq_true c2
    clear c2
    obtain rfl := Option.some.inj H
    go_enter Tryz.func87, Tryz.ntmps87
    go_wp2
    go_ret
    exact ⟨by first | rfl | (simp; done) | (simp [*]; done), by repeat (first | exact Drawn0.refl _ | apply Drawn0.step)⟩
  rw [if_neg c2] at H
  have c2b0 := decide_eq_false c2
  clear c2
  obtain rfl := Option.some.inj H
  go_enter Tryz.func87, Tryz.ntmps87
  go_wp2
  go_ret
  exact ⟨by first | rfl | (simp; done) | (simp [*]; done), by repeat (first | exact Drawn0.refl _ | apply Drawn0.step)⟩

end Go.Proofs.YtgdcafbdkidamaaGreatDoor.B
end
section
namespace Go.Proofs.YtgdcafbdkidamaaGreatDoor.B
open Go.Proofs.YtgdcafbdkidamaaGreatDoor.Sq Go.RowKit Go.Proofs.YtgdcafbdkidamaaGreatDoor.H0 Go.Proofs.YtgdcafbdkidamaaGreatDoor.F0 Go.Proofs.YtgdcafbdkidamaaGreatDoorW.PrintWords Go.Proofs.YtgdcafbdkidamaaGreatDoorW.PrintLast Go.Proofs.YtgdcafbdkidamaaGreatDoorW.PrintMore Go.Proofs.YtgdcafbdkidamaaGreatDoor.Ve Go.Proofs.YtgdcafbdkidamaaGreatDoor.VeT Go.Proofs.YtgdcafbdkidamaaGreatDoor.VeE
attribute [local go_sem high] field_num_fieldP   -- for this text's walks alone
attribute [local go_sem] max2_int min2_int max_two min_two max_three min_three max_four min_four   -- for this text's walks alone
set_option linter.unusedVariables false
set_option linter.unusedSimpArgs false
def spec_PutWord.l0 : Nat → Int → List Int → Int → Option (ByteArray)
  | 0, _, _, _ => none
  | k + 1, x0, x3, x4 => if x4 ≥ 0 then (if 0 ≤ (IntKind.u64.wrap (wrap64 (8 * x4))) then (if x3.length < 140737488355328 then (spec_PutWord.l0 k x0 (x3 ++ [(shr .u64 x0 (IntKind.u64.wrap (wrap64 (8 * x4)))) % 256]) (wrap64 (x4 - 1))) else (none)) else (none)) else (some (strOfNums x3))
def spec_PutWord.f (k : Nat) (a0 : Int) : Option (ByteArray) := spec_PutWord.l0 k a0 (([] : List Int)) 7
theorem spec_PutWord.mono_l : ∀ k, (∀ y0 y1 y2, LeO (spec_PutWord.l0 k y0 y1 y2) (spec_PutWord.l0 (k + 1) y0 y1 y2))
  | 0 => fun _ _ _ r h => by simp [spec_PutWord.l0] at h
  | k + 1 => by
    have ih0 := spec_PutWord.mono_l k
    · intro y0 y1 y2
      unfold spec_PutWord.l0
      repeat' first
      | (with_reducible exact ih0 _ _ _)
      | (with_reducible exact LeO.refl _)
      | (with_reducible exact LeO.none _)
      | (with_reducible refine LeO.ite ?_ ?_)
      | (with_reducible refine LeO.bind ?_ (fun _ => ?_))
      | exact ih0 _ _ _
      | exact LeO.none _
      | refine LeO.ite ?_ ?_
      | refine LeO.bind ?_ (fun _ => ?_)
theorem spec_PutWord.mono : ∀ a0 k, LeO (spec_PutWord.f k a0) (spec_PutWord.f (k + 1) a0) := by
  intro a0 k
  have ih0 := spec_PutWord.mono_l k
  unfold spec_PutWord.f
  repeat' first
      | (with_reducible exact ih0 _ _ _)
      | (with_reducible exact LeO.refl _)
      | (with_reducible exact LeO.none _)
      | (with_reducible refine LeO.ite ?_ ?_)
      | (with_reducible refine LeO.bind ?_ (fun _ => ?_))
      | exact ih0 _ _ _
      | exact LeO.none _
      | refine LeO.ite ?_ ?_
      | refine LeO.bind ?_ (fun _ => ?_)
set_option maxHeartbeats 8000000 in
set_option maxRecDepth 100000 in
theorem spec_PutWord.calls (k : Nat) (a0 : Int) (r : ByteArray) (w : World) (h : spec_PutWord.f k a0 = some r) :
    Calls Tryz.prog 123 #[.int .u64 a0] w fun e w' => e = .returned (.string r) ∧ Below w.heap.size w w' := by
  have HB := Aside0.mk (Below.refl w.heap.size w)
  have H : (spec_PutWord.l0 k a0 (([] : List Int)) 7) = some r := h
  clear h
  obtain ⟨y120, hy120⟩ : ∃ y_ : List Int, y_ = (([] : List Int)) := ⟨_, rfl⟩
  replace H : (spec_PutWord.l0 k a0 y120 7) = some r := by first | (rw [hy120]; with_reducible exact H) | (have H2_ := (Option.bind_some _ _).symm.trans H; rw [hy120]; with_reducible exact H2_) | (have H2_ := (Option.bind_some _ _).symm.trans H; with_reducible exact H2_) | with_reducible exact H | (rw [hy120]; exact H) | exact H
  have Ny120 := Aside0.mk hy120
  clear hy120
  have H' := Aside0.mk H
  clear H
  go_enter Tryz.func123, Tryz.ntmps123
  go_wp2_with (first | ((with_reducible refine gate_dst (N := 5) rfl ?_); refine Kd.R_lit (Kd.int .u8) _ 5 ?hg (N := 5) ?hd (xs := ([] : List Int)) (inner := []) (ok := fun _ => True) (okp := fun _ => True) ?hr ?hp (fun _ hk => hk) trivial (Below.refl _ _) (Nat.le_refl _) (by simp) ?_; (case hd => rfl); (case hg => rfl); (case hr => first | (go_simp; done) | (go_simp; rfl)); (case hp => exact (Reps.none _ _)); intro v121 w2 ho3 hb hg_ hnew_; clear hg_ hnew_; (first | rw [← Ny120.out] at ho3 | (simp only [Int.reduceToNat] at ho3; rw [← Ny120.out] at ho3)); have n0_ := Aside0.mk (Kd.R_lower ho3 (below_size hb_)); have n1_ := Aside0.mk (below_step hb_ hb); clear HB; have HO122 := n0_; have HB := n1_; clear n0_ n1_; clear hb ho3))
  go_loopg [3, 4] k (fun kq v3 v4 w' => ∃ (x3_1 : List Int) (x4_1 : Int), v4 = .int .i64 x4_1 ∧ Aside0 (spec_PutWord.l0 kq a0 x3_1 x4_1 = some r) ∧ Aside0 (kq ≤ k) ∧ Aside0 (Kd.R (Kd.int .u8) 5 w' w.heap.size (fun _ => True) v3 x3_1) ∧ Aside0 (Below w.heap.size w w'))
  case atStart => exact ⟨(y120), (7), rs_, H', ⟨Nat.le_refl _⟩, ⟨by (with_reducible repeat (first | apply Kd.R_alloc | apply Kd.R_drewN | apply Kd.R_drew)); exact HO122.out⟩, ⟨by repeat (first | (with_reducible first | exact HB.out | apply below_alloc | apply pw_below_drewN | apply below_drew1) | exact HB.out)⟩⟩
  case round =>
    clear H'
    try clear c1
    try clear p2
    obtain ⟨x3_1, x4_1, rfl, HA, HK1, HO_3, HB⟩ := hrel
    cases gk with
    | zero => exact absurd HA.out (by simp [spec_PutWord.l0])
    | succ k1 =>
      have H := HA.out
      clear HA
      simp only [spec_PutWord.l0] at H
      by_cases c4 : x4_1 ≥ 0
      rotate_left
      · rw [if_neg c4] at H
        have c4b0 := decide_eq_false c4
        clear c4
        obtain rfl := Option.some.inj H
        have hcv10 := own_string (P := Tryz.prog) Tryz.underlying46 Tryz.underlying5 Tryz.underlying9 (Kd.own_of_R HO_3.out)
        go_wp2
        go_ret
        exact ⟨by first | rfl | (simp [errW_none, errW_some] <;> rfl) | (simp [*, errW_none, errW_some] <;> rfl), by repeat (first | (with_reducible first | exact HB.out | apply below_alloc | apply pw_below_drewN | apply below_drew1) | exact HB.out)⟩

      rw [if_pos c4] at H
      have c4b0 := decide_eq_true c4
      clear c4
      obtain ⟨ji5, hji5⟩ : ∃ j_ : Int, (IntKind.u64.wrap (wrap64 (8 * x4_1))) = j_ := ⟨_, rfl⟩
      replace H : (if 0 ≤ (ji5) then (if x3_1.length < 140737488355328 then (spec_PutWord.l0 k1 a0 (x3_1 ++ [(shr .u64 a0 (ji5)) % 256]) (wrap64 (x4_1 - 1))) else (none)) else (none)) = some r := by first | (rw [hji5] at H; exact H) | (simp only [hji5] at H ⊢; exact H)
      by_cases c6 : 0 ≤ (ji5)
      rotate_left
      · rw [if_neg c6] at H
        exact absurd H (by simp)
      rw [if_pos c6] at H
      have c6b0 := eq_true c6
      have c6b1 := decide_eq_true c6
      clear c6
      obtain ⟨ji7, hji7⟩ : ∃ j_ : Int, (shr .u64 a0 (ji5)) = j_ := ⟨_, rfl⟩
      replace H : (if x3_1.length < 140737488355328 then (spec_PutWord.l0 k1 a0 (x3_1 ++ [(ji7) % 256]) (wrap64 (x4_1 - 1))) else (none)) = some r := by first | (rw [hji7] at H; exact H) | (simp only [hji7] at H ⊢; exact H)
      have hji7_ : (a0 / 2 ^ min (ji5).toNat 64) = ji7 := hji7
      have hji7z : (ji5) ≤ 64 → (a0 / 2 ^ (ji5).toNat) = ji7 := shr_small hji7
      by_cases c8 : x3_1.length < 140737488355328
      rotate_left
      · rw [if_neg c8] at H
        exact absurd H (by simp)
      rw [if_pos c8] at H
      have LMc8 := Aside0.mk c8
      clear c8
      obtain ⟨y123, hy123⟩ : ∃ y_ : List Int, y_ = (x3_1 ++ [(ji7) % 256]) := ⟨_, rfl⟩
      replace H : (spec_PutWord.l0 k1 a0 y123 (wrap64 (x4_1 - 1))) = some r := by first | (rw [hy123]; with_reducible exact H) | (have H2_ := (Option.bind_some _ _).symm.trans H; rw [hy123]; with_reducible exact H2_) | (have H2_ := (Option.bind_some _ _).symm.trans H; with_reducible exact H2_) | with_reducible exact H | (rw [hy123]; exact H) | exact H
      have Ny123 := Aside0.mk hy123
      clear hy123
      have H' := Aside0.mk H
      clear H
      go_wp2_with (first | ((with_reducible refine gate_builtin (b := .append) (xs := #[.tmp 10, .tmp 17]) rfl ?_); at_builtin; refine Kd.R_append (Kd.int .u8) (w0 := w) w.heap.size rfl (.tmp 10) (.tmp 17) 46 5 (.int .u8 0) 1 rfl Tryz.underlying46 info5 rfl (by decide) (by omega) u3 x3_1 ((ji7) % 256) [.int .u8 ((ji7) % 256)] (fun _ => True) (fun _ => False) rfl rfl ?aP (fun _ hk => hk.elim) ?aF ?aO ?aB ?aS ?aL ?_; (case aP => exact rfl); (case aB => exact hb_); (case aF => exact (fun _ _ => trivial)); (case aO => exact (kr_ HO_3.out)); (case aS => exact (below_size hb_)); (case aL => have := LMc8.out; omega); intro v124 w9 ho hb hg hat; rw [← Ny123.out] at ho; have n0_ := Aside0.mk (hb); have n1_ := Aside0.mk (ho); clear HB; clear HO_3; have HB := n0_; have HO125 := n1_; clear n0_ n1_; clear ho hb hg hat))
      go_roundg k1
      case measure => have := HK1.out; omega
      case rel => exact ⟨(y123), (wrap64 (x4_1 - 1)), rs_, H', ⟨by have := HK1.out; omega⟩, ⟨by (with_reducible repeat (first | apply Kd.R_alloc | apply Kd.R_drewN | apply Kd.R_drew)); exact HO125.out⟩, ⟨by repeat (first | (with_reducible first | exact HB.out | apply below_alloc | apply pw_below_drewN | apply below_drew1) | exact HB.out)⟩⟩
def spec_PutPoint.j0 : Nat → Bool → Int → Int → Bool → Option (ByteArray)
  | 0, _, _, _, _ => none
  | k + 1, x9, x127000, x127001, x127002 => if x9 = true then ((spec_PutWord.f k 0).bind fun t128 => (some t128)) else ((spec_PutWord.f k (IntKind.u64.wrap ((IntKind.u64.wrap (x127000 + 4611686018427387904)) + (IntKind.u64.wrap (2305843009213693952 * (Int.tmod x127001 2)))))).bind fun t129 => (some t129))
def spec_PutPoint.f (k : Nat) (a0_0 : Int) (a0_1 : Int) (a0_2 : Bool) : Option (ByteArray) := if a0_2 = true then (spec_PutPoint.j0 k true a0_0 a0_1 a0_2) else ((spec_OnCurve.f a0_0 a0_1 a0_2).bind fun t127 => (spec_PutPoint.j0 k (!t127) a0_0 a0_1 a0_2))
set_option maxRecDepth 100000 in
set_option maxHeartbeats 4000000 in
theorem spec_PutPoint.calls (k : Nat) (a0_0 : Int) (a0_1 : Int) (a0_2 : Bool) (r : ByteArray) (w : World) (h : spec_PutPoint.f k a0_0 a0_1 a0_2 = some r) :
    Calls Tryz.prog 77 #[.agg #[.int .u64 a0_0, .int .u64 a0_1, .bool a0_2]] w fun e w' => e = .returned (.string r) ∧ Below w.heap.size w w' := by
  unfold spec_PutPoint.f at h
  all_goals rcases k with _ | k
  repeat' (first | (rw [Option.bind_eq_some_iff] at h; obtain ⟨_, _, h⟩ := h) | (split at h) | (rw [spec_PutPoint.j0] at h) | (cases h <;> fail) | (replace h := Option.some.inj h) | (have h3_ := (Prod.mk.inj h).1; replace h := (Prod.mk.inj h).2; subst h3_) | (subst h))
  all_goals try contradiction
  all_goals refine ve_fn (args := [.agg #[.int .u64 a0_0, .int .u64 a0_1, .bool a0_2]]) Tryz.func77 rfl Tryz.ntmps77 rfl (good (Γ := fun _ => True) (fun _ _ => trivial)) ?_
  all_goals repeat' (first | refine rbt ?_ | refine rbf ?_ | refine wn ?_ | refine wq ?_ | refine wc_plain ?_ | refine wc_draw ?_ | refine rZ ?_ | refine rD ?_ | refine ve8 ?_ | refine ve4 ?_ | refine ve3 ?_ | refine ve1 ?_ | refine ve2 ?_ | refine ve5 ?_ | refine ve6 ?_ | refine ve7 ?_ | refine ve9 ?_ | refine rA ?_ | refine rE ?_ | refine rC ?_ | refine rB ?_ | refine rG ?_ | refine rH ?_ | refine rI ?_ | refine rJ ?_ | refine rcb ?_ | refine rcp (Pre := spec_PutWord.f _ _ = some _) (fun hp_ w_ hΓ => spec_PutWord.calls _ _ _ w_ hp_) ?_ | refine rcp (Pre := spec_OnCurve.f _ _ _ = some _) (fun hp_ w_ hΓ => spec_OnCurve.calls _ _ _ _ w_ hp_) ?_ | refine rel (fun w_ hΓ => ld_zero (by first  |  exact hΓ.z  |  exact hΓ.1.z  |  exact hΓ.1  |  exact hΓ)) ?_  |  refine req (fun w_ => eq_pt w_) ?_  |  refine req (fun w_ => ne_pt w_) ?_  |  refine req (fun w_ => eq_num w_) ?_  |  refine rsh ?_  |  refine rsl_ ?_  |  refine rslh ?_ | refine wb ?_ | refine wk ?_ | refine we ?_ | exact wt | refine wr ?_ | refine rr1 ?_ | refine rr2 ?_ | exact fr | exact fe | refine wTs ?_ | refine wFs ?_ | refine rof ?_ | refine rof0 ?_)

def spec_l1K.f  : Option (List Int) := some (([1116352408, 1899447441, 3049323471, 3921009573, 961987163, 1508970993, 2453635748, 2870763221, 3624381080, 310598401, 607225278, 1426881987, 1925078388, 2162078206, 2614888103, 3248222580, 3835390401, 4022224774, 264347078, 604807628, 770255983, 1249150122, 1555081692, 1996064986, 2554220882, 2821834349, 2952996808, 3210313671, 3336571891, 3584528711, 113926993, 338241895, 666307205, 773529912, 1294757372, 1396182291, 1695183700, 1986661051, 2177026350, 2456956037, 2730485921, 2820302411, 3259730800, 3345764771, 3516065817, 3600352804, 4094571909, 275423344, 430227734, 506948616, 659060556, 883997877, 958139571, 1322822218, 1537002063, 1747873779, 1955562222, 2024104815, 2227730452, 2361852424, 2428436474, 2756734187, 3204031479, 3329325298] : List Int))
set_option maxHeartbeats 8000000 in
set_option maxRecDepth 100000 in
theorem spec_l1K.calls  (r : List Int) (w : World) (h : spec_l1K.f  = some r) :
    Calls Tryz.prog 133 #[] w fun e w' => ∃ v0_ : Value, e = .returned (v0_) ∧ Kd.R (Kd.int .u32) 171 w' w.heap.size (fun _ => True) v0_ r ∧ Below w.heap.size w w' := by
  have HB := Aside0.mk (Below.refl w.heap.size w)
  have H : (some (([1116352408, 1899447441, 3049323471, 3921009573, 961987163, 1508970993, 2453635748, 2870763221, 3624381080, 310598401, 607225278, 1426881987, 1925078388, 2162078206, 2614888103, 3248222580, 3835390401, 4022224774, 264347078, 604807628, 770255983, 1249150122, 1555081692, 1996064986, 2554220882, 2821834349, 2952996808, 3210313671, 3336571891, 3584528711, 113926993, 338241895, 666307205, 773529912, 1294757372, 1396182291, 1695183700, 1986661051, 2177026350, 2456956037, 2730485921, 2820302411, 3259730800, 3345764771, 3516065817, 3600352804, 4094571909, 275423344, 430227734, 506948616, 659060556, 883997877, 958139571, 1322822218, 1537002063, 1747873779, 1955562222, 2024104815, 2227730452, 2361852424, 2428436474, 2756734187, 3204031479, 3329325298] : List Int))) = some r := h
  clear h
  obtain ⟨y130, hy130⟩ : ∃ y_ : List Int, y_ = (([1116352408, 1899447441, 3049323471, 3921009573, 961987163, 1508970993, 2453635748, 2870763221, 3624381080, 310598401, 607225278, 1426881987, 1925078388, 2162078206, 2614888103, 3248222580, 3835390401, 4022224774, 264347078, 604807628, 770255983, 1249150122, 1555081692, 1996064986, 2554220882, 2821834349, 2952996808, 3210313671, 3336571891, 3584528711, 113926993, 338241895, 666307205, 773529912, 1294757372, 1396182291, 1695183700, 1986661051, 2177026350, 2456956037, 2730485921, 2820302411, 3259730800, 3345764771, 3516065817, 3600352804, 4094571909, 275423344, 430227734, 506948616, 659060556, 883997877, 958139571, 1322822218, 1537002063, 1747873779, 1955562222, 2024104815, 2227730452, 2361852424, 2428436474, 2756734187, 3204031479, 3329325298] : List Int)) := ⟨_, rfl⟩
  replace H : (some y130) = some r := by first | (rw [hy130]; with_reducible exact H) | (have H2_ := (Option.bind_some _ _).symm.trans H; rw [hy130]; with_reducible exact H2_) | (have H2_ := (Option.bind_some _ _).symm.trans H; with_reducible exact H2_) | with_reducible exact H | (rw [hy130]; exact H) | exact H
  have Ny130 := Aside0.mk hy130
  clear hy130
  obtain rfl := Option.some.inj H
  go_enter Tryz.func133, Tryz.ntmps133
  go_wp2_with (first | ((with_reducible refine gate_dst (N := 1) rfl ?_); refine Kd.R_lit (Kd.int .u32) _ 171 ?hg (N := 1) ?hd (xs := ([1116352408, 1899447441, 3049323471, 3921009573, 961987163, 1508970993, 2453635748, 2870763221, 3624381080, 310598401, 607225278, 1426881987, 1925078388, 2162078206, 2614888103, 3248222580, 3835390401, 4022224774, 264347078, 604807628, 770255983, 1249150122, 1555081692, 1996064986, 2554220882, 2821834349, 2952996808, 3210313671, 3336571891, 3584528711, 113926993, 338241895, 666307205, 773529912, 1294757372, 1396182291, 1695183700, 1986661051, 2177026350, 2456956037, 2730485921, 2820302411, 3259730800, 3345764771, 3516065817, 3600352804, 4094571909, 275423344, 430227734, 506948616, 659060556, 883997877, 958139571, 1322822218, 1537002063, 1747873779, 1955562222, 2024104815, 2227730452, 2361852424, 2428436474, 2756734187, 3204031479, 3329325298] : List Int)) (inner := [.int .u32 1116352408, .int .u32 1899447441, .int .u32 3049323471, .int .u32 3921009573, .int .u32 961987163, .int .u32 1508970993, .int .u32 2453635748, .int .u32 2870763221, .int .u32 3624381080, .int .u32 310598401, .int .u32 607225278, .int .u32 1426881987, .int .u32 1925078388, .int .u32 2162078206, .int .u32 2614888103, .int .u32 3248222580, .int .u32 3835390401, .int .u32 4022224774, .int .u32 264347078, .int .u32 604807628, .int .u32 770255983, .int .u32 1249150122, .int .u32 1555081692, .int .u32 1996064986, .int .u32 2554220882, .int .u32 2821834349, .int .u32 2952996808, .int .u32 3210313671, .int .u32 3336571891, .int .u32 3584528711, .int .u32 113926993, .int .u32 338241895, .int .u32 666307205, .int .u32 773529912, .int .u32 1294757372, .int .u32 1396182291, .int .u32 1695183700, .int .u32 1986661051, .int .u32 2177026350, .int .u32 2456956037, .int .u32 2730485921, .int .u32 2820302411, .int .u32 3259730800, .int .u32 3345764771, .int .u32 3516065817, .int .u32 3600352804, .int .u32 4094571909, .int .u32 275423344, .int .u32 430227734, .int .u32 506948616, .int .u32 659060556, .int .u32 883997877, .int .u32 958139571, .int .u32 1322822218, .int .u32 1537002063, .int .u32 1747873779, .int .u32 1955562222, .int .u32 2024104815, .int .u32 2227730452, .int .u32 2361852424, .int .u32 2428436474, .int .u32 2756734187, .int .u32 3204031479, .int .u32 3329325298]) (ok := fun _ => True) (okp := fun _ => True) ?hr ?hp (fun _ hk => hk) trivial (Below.refl _ _) (Nat.le_refl _) (by simp) ?_; (case hd => rfl); (case hg => rfl); (case hr => first | (go_simp; done) | (go_simp; rfl)); (case hp => exact (Reps.one (show Kd.M (Kd.int .u32) _ _ _ 1116352408 [.int .u32 1116352408] from rfl) (Reps.one (show Kd.M (Kd.int .u32) _ _ _ 1899447441 [.int .u32 1899447441] from rfl) (Reps.one (show Kd.M (Kd.int .u32) _ _ _ 3049323471 [.int .u32 3049323471] from rfl) (Reps.one (show Kd.M (Kd.int .u32) _ _ _ 3921009573 [.int .u32 3921009573] from rfl) (Reps.one (show Kd.M (Kd.int .u32) _ _ _ 961987163 [.int .u32 961987163] from rfl) (Reps.one (show Kd.M (Kd.int .u32) _ _ _ 1508970993 [.int .u32 1508970993] from rfl) (Reps.one (show Kd.M (Kd.int .u32) _ _ _ 2453635748 [.int .u32 2453635748] from rfl) (Reps.one (show Kd.M (Kd.int .u32) _ _ _ 2870763221 [.int .u32 2870763221] from rfl) (Reps.one (show Kd.M (Kd.int .u32) _ _ _ 3624381080 [.int .u32 3624381080] from rfl) (Reps.one (show Kd.M (Kd.int .u32) _ _ _ 310598401 [.int .u32 310598401] from rfl) (Reps.one (show Kd.M (Kd.int .u32) _ _ _ 607225278 [.int .u32 607225278] from rfl) (Reps.one (show Kd.M (Kd.int .u32) _ _ _ 1426881987 [.int .u32 1426881987] from rfl) (Reps.one (show Kd.M (Kd.int .u32) _ _ _ 1925078388 [.int .u32 1925078388] from rfl) (Reps.one (show Kd.M (Kd.int .u32) _ _ _ 2162078206 [.int .u32 2162078206] from rfl) (Reps.one (show Kd.M (Kd.int .u32) _ _ _ 2614888103 [.int .u32 2614888103] from rfl) (Reps.one (show Kd.M (Kd.int .u32) _ _ _ 3248222580 [.int .u32 3248222580] from rfl) (Reps.one (show Kd.M (Kd.int .u32) _ _ _ 3835390401 [.int .u32 3835390401] from rfl) (Reps.one (show Kd.M (Kd.int .u32) _ _ _ 4022224774 [.int .u32 4022224774] from rfl) (Reps.one (show Kd.M (Kd.int .u32) _ _ _ 264347078 [.int .u32 264347078] from rfl) (Reps.one (show Kd.M (Kd.int .u32) _ _ _ 604807628 [.int .u32 604807628] from rfl) (Reps.one (show Kd.M (Kd.int .u32) _ _ _ 770255983 [.int .u32 770255983] from rfl) (Reps.one (show Kd.M (Kd.int .u32) _ _ _ 1249150122 [.int .u32 1249150122] from rfl) (Reps.one (show Kd.M (Kd.int .u32) _ _ _ 1555081692 [.int .u32 1555081692] from rfl) (Reps.one (show Kd.M (Kd.int .u32) _ _ _ 1996064986 [.int .u32 1996064986] from rfl) (Reps.one (show Kd.M (Kd.int .u32) _ _ _ 2554220882 [.int .u32 2554220882] from rfl) (Reps.one (show Kd.M (Kd.int .u32) _ _ _ 2821834349 [.int .u32 2821834349] from rfl) (Reps.one (show Kd.M (Kd.int .u32) _ _ _ 2952996808 [.int .u32 2952996808] from rfl) (Reps.one (show Kd.M (Kd.int .u32) _ _ _ 3210313671 [.int .u32 3210313671] from rfl) (Reps.one (show Kd.M (Kd.int .u32) _ _ _ 3336571891 [.int .u32 3336571891] from rfl) (Reps.one (show Kd.M (Kd.int .u32) _ _ _ 3584528711 [.int .u32 3584528711] from rfl) (Reps.one (show Kd.M (Kd.int .u32) _ _ _ 113926993 [.int .u32 113926993] from rfl) (Reps.one (show Kd.M (Kd.int .u32) _ _ _ 338241895 [.int .u32 338241895] from rfl) (Reps.one (show Kd.M (Kd.int .u32) _ _ _ 666307205 [.int .u32 666307205] from rfl) (Reps.one (show Kd.M (Kd.int .u32) _ _ _ 773529912 [.int .u32 773529912] from rfl) (Reps.one (show Kd.M (Kd.int .u32) _ _ _ 1294757372 [.int .u32 1294757372] from rfl) (Reps.one (show Kd.M (Kd.int .u32) _ _ _ 1396182291 [.int .u32 1396182291] from rfl) (Reps.one (show Kd.M (Kd.int .u32) _ _ _ 1695183700 [.int .u32 1695183700] from rfl) (Reps.one (show Kd.M (Kd.int .u32) _ _ _ 1986661051 [.int .u32 1986661051] from rfl) (Reps.one (show Kd.M (Kd.int .u32) _ _ _ 2177026350 [.int .u32 2177026350] from rfl) (Reps.one (show Kd.M (Kd.int .u32) _ _ _ 2456956037 [.int .u32 2456956037] from rfl) (Reps.one (show Kd.M (Kd.int .u32) _ _ _ 2730485921 [.int .u32 2730485921] from rfl) (Reps.one (show Kd.M (Kd.int .u32) _ _ _ 2820302411 [.int .u32 2820302411] from rfl) (Reps.one (show Kd.M (Kd.int .u32) _ _ _ 3259730800 [.int .u32 3259730800] from rfl) (Reps.one (show Kd.M (Kd.int .u32) _ _ _ 3345764771 [.int .u32 3345764771] from rfl) (Reps.one (show Kd.M (Kd.int .u32) _ _ _ 3516065817 [.int .u32 3516065817] from rfl) (Reps.one (show Kd.M (Kd.int .u32) _ _ _ 3600352804 [.int .u32 3600352804] from rfl) (Reps.one (show Kd.M (Kd.int .u32) _ _ _ 4094571909 [.int .u32 4094571909] from rfl) (Reps.one (show Kd.M (Kd.int .u32) _ _ _ 275423344 [.int .u32 275423344] from rfl) (Reps.one (show Kd.M (Kd.int .u32) _ _ _ 430227734 [.int .u32 430227734] from rfl) (Reps.one (show Kd.M (Kd.int .u32) _ _ _ 506948616 [.int .u32 506948616] from rfl) (Reps.one (show Kd.M (Kd.int .u32) _ _ _ 659060556 [.int .u32 659060556] from rfl) (Reps.one (show Kd.M (Kd.int .u32) _ _ _ 883997877 [.int .u32 883997877] from rfl) (Reps.one (show Kd.M (Kd.int .u32) _ _ _ 958139571 [.int .u32 958139571] from rfl) (Reps.one (show Kd.M (Kd.int .u32) _ _ _ 1322822218 [.int .u32 1322822218] from rfl) (Reps.one (show Kd.M (Kd.int .u32) _ _ _ 1537002063 [.int .u32 1537002063] from rfl) (Reps.one (show Kd.M (Kd.int .u32) _ _ _ 1747873779 [.int .u32 1747873779] from rfl) (Reps.one (show Kd.M (Kd.int .u32) _ _ _ 1955562222 [.int .u32 1955562222] from rfl) (Reps.one (show Kd.M (Kd.int .u32) _ _ _ 2024104815 [.int .u32 2024104815] from rfl) (Reps.one (show Kd.M (Kd.int .u32) _ _ _ 2227730452 [.int .u32 2227730452] from rfl) (Reps.one (show Kd.M (Kd.int .u32) _ _ _ 2361852424 [.int .u32 2361852424] from rfl) (Reps.one (show Kd.M (Kd.int .u32) _ _ _ 2428436474 [.int .u32 2428436474] from rfl) (Reps.one (show Kd.M (Kd.int .u32) _ _ _ 2756734187 [.int .u32 2756734187] from rfl) (Reps.one (show Kd.M (Kd.int .u32) _ _ _ 3204031479 [.int .u32 3204031479] from rfl) (Reps.one (show Kd.M (Kd.int .u32) _ _ _ 3329325298 [.int .u32 3329325298] from rfl) (Reps.none _ _)))))))))))))))))))))))))))))))))))))))))))))))))))))))))))))))))); intro v131 w1 ho2 hb hg_ hnew_; clear hg_ hnew_; (first | rw [← Ny130.out] at ho2 | (simp only [Int.reduceToNat] at ho2; rw [← Ny130.out] at ho2)); have n0_ := Aside0.mk (Kd.R_lower ho2 (below_size hb_)); have n1_ := Aside0.mk (below_step hb_ hb); clear HB; have HO132 := n0_; have HB := n1_; clear n0_ n1_; clear hb ho2))
  go_ret
  exact ⟨_, by first | rfl | (simp [errW_none, errW_some] <;> rfl) | (simp [*, errW_none, errW_some] <;> rfl), by (with_reducible repeat (first | apply Kd.R_alloc | apply Kd.R_drewN | apply Kd.R_drew)); exact HO132.out, by repeat (first | (with_reducible first | exact HB.out | apply below_alloc | apply pw_below_drewN | apply below_drew1) | exact HB.out)⟩

def spec_l1Turn.f (a0 : Int) (a1 : Int) : Option (Int) := if 0 ≤ (IntKind.u64.wrap (a1)) then (if 0 ≤ (IntKind.u64.wrap (wrap64 (32 - a1))) then (some (Go.bits .or .u32 (shr .u32 a0 (IntKind.u64.wrap (a1))) (shl .u32 a0 (IntKind.u64.wrap (wrap64 (32 - a1)))))) else (none)) else (none)
set_option maxHeartbeats 8000000 in
set_option maxRecDepth 100000 in
theorem spec_l1Turn.calls (a0 : Int) (a1 : Int) (r : Int) (w : World) (h : spec_l1Turn.f a0 a1 = some r) :
    Calls Tryz.prog 155 #[.int .u32 a0, .int .i64 a1] w fun e w' => e = .returned (.int .u32 r) ∧ Drawn0 w w' := by
  have H : (if 0 ≤ (IntKind.u64.wrap (a1)) then (if 0 ≤ (IntKind.u64.wrap (wrap64 (32 - a1))) then (some (Go.bits .or .u32 (shr .u32 a0 (IntKind.u64.wrap (a1))) (shl .u32 a0 (IntKind.u64.wrap (wrap64 (32 - a1)))))) else (none)) else (none)) = some r := h
  clear h
  obtain ⟨ji3, hji3⟩ : ∃ j_ : Int, (IntKind.u64.wrap (a1)) = j_ := ⟨_, rfl⟩
  replace H : (if 0 ≤ (ji3) then (if 0 ≤ (IntKind.u64.wrap (wrap64 (32 - a1))) then (some (Go.bits .or .u32 (shr .u32 a0 (ji3)) (shl .u32 a0 (IntKind.u64.wrap (wrap64 (32 - a1)))))) else (none)) else (none)) = some r := by first | (rw [hji3] at H; exact H) | (simp only [hji3] at H ⊢; exact H)
  by_cases c4 : 0 ≤ (ji3)
  rotate_left
  · rw [if_neg c4] at H
    exact absurd H (by simp)

  rw [if_pos c4] at H
  have c4b0 := eq_true c4
  have c4b1 := decide_eq_true c4
  clear c4
  obtain ⟨ji5, hji5⟩ : ∃ j_ : Int, (shr .u32 a0 (ji3)) = j_ := ⟨_, rfl⟩
  replace H : (if 0 ≤ (IntKind.u64.wrap (wrap64 (32 - a1))) then (some (Go.bits .or .u32 (ji5) (shl .u32 a0 (IntKind.u64.wrap (wrap64 (32 - a1)))))) else (none)) = some r := by first | (rw [hji5] at H; exact H) | (simp only [hji5] at H ⊢; exact H)
  have hji5_ : (a0 / 2 ^ min (ji3).toNat 32) = ji5 := hji5
  have hji5z : (ji3) ≤ 32 → (a0 / 2 ^ (ji3).toNat) = ji5 := shr_small hji5
  obtain ⟨ji6, hji6⟩ : ∃ j_ : Int, (IntKind.u64.wrap (wrap64 (32 - a1))) = j_ := ⟨_, rfl⟩
  replace H : (if 0 ≤ (ji6) then (some (Go.bits .or .u32 (ji5) (shl .u32 a0 (ji6)))) else (none)) = some r := by first | (rw [hji6] at H; exact H) | (simp only [hji6] at H ⊢; exact H)
  by_cases c7 : 0 ≤ (ji6)
  rotate_left
  · rw [if_neg c7] at H
    exact absurd H (by simp)
  rw [if_pos c7] at H
  have c7b0 := eq_true c7
  have c7b1 := decide_eq_true c7
  clear c7
  obtain ⟨ji8, hji8⟩ : ∃ j_ : Int, (shl .u32 a0 (ji6)) = j_ := ⟨_, rfl⟩
  replace H : (some (Go.bits .or .u32 (ji5) (ji8))) = some r := by first | (rw [hji8] at H; exact H) | (simp only [hji8] at H ⊢; exact H)
  have hji8_ : (IntKind.u32.wrap (a0 * 2 ^ min (ji6).toNat 32)) = ji8 := hji8
  have hji8z : (ji6) ≤ 32 → (IntKind.u32.wrap (a0 * 2 ^ (ji6).toNat)) = ji8 := shl_small hji8
  obtain rfl := Option.some.inj H
  go_enter Tryz.func155, Tryz.ntmps155
  go_wp2
  go_ret
  exact ⟨by first | rfl | (simp; done) | (simp only [← hji3, ← hji5, ← hji6, ← hji8] <;> (first | rfl | simp)) | (simp [*]; done), by repeat (first | exact Drawn0.refl _ | apply Drawn0.step)⟩
end Go.Proofs.YtgdcafbdkidamaaGreatDoor.B
end
section
namespace Go.Proofs.YtgdcafbdkidamaaGreatDoor.B
open Go.Proofs.YtgdcafbdkidamaaGreatDoor.Sq Go.RowKit Go.Proofs.YtgdcafbdkidamaaGreatDoor.H0 Go.Proofs.YtgdcafbdkidamaaGreatDoor.F0 Go.Proofs.YtgdcafbdkidamaaGreatDoorW.PrintWords Go.Proofs.YtgdcafbdkidamaaGreatDoorW.PrintLast Go.Proofs.YtgdcafbdkidamaaGreatDoorW.PrintMore Go.Proofs.YtgdcafbdkidamaaGreatDoor.Ve Go.Proofs.YtgdcafbdkidamaaGreatDoor.VeT Go.Proofs.YtgdcafbdkidamaaGreatDoor.VeE
attribute [local go_sem high] field_num_fieldP   -- for this text's walks alone
attribute [local go_sem] max2_int min2_int max_two min_two max_three min_three max_four min_four   -- for this text's walks alone
set_option linter.unusedVariables false
set_option linter.unusedSimpArgs false
def impl_MulMod.f (k : Nat) (a0 : Int) (a1 : Int) (a2 : Int) : Option (Int) := if a2 = 0 then (some 0) else ((bits_Mul64.f a0 a1).bind fun bt286 => ((bits_Div64.f k (Int.tmod bt286.1 a2) bt286.2 a2).bind fun bt288 => (some bt288.2)))
set_option maxHeartbeats 8000000 in
set_option maxRecDepth 100000 in
theorem impl_MulMod.calls (k : Nat) (a0 : Int) (a1 : Int) (a2 : Int) (r : Int) (w : World) (h : impl_MulMod.f k a0 a1 a2 = some r) :
    Calls Tryz.prog 110 #[.int .u64 a0, .int .u64 a1, .int .u64 a2] w fun e w' => e = .returned (.int .u64 r) ∧ Drawn0 w w' := by
  have H : (if a2 = 0 then (some 0) else ((bits_Mul64.f a0 a1).bind fun bt286 => ((bits_Div64.f k (Int.tmod bt286.1 a2) bt286.2 a2).bind fun bt288 => (some bt288.2)))) = some r := h
  clear h
  by_cases c4 : a2 = 0
  · rw [if_pos c4] at H
    have c4b0 : (a2 == 0) = true := beq_iff_eq.mpr c4
    have c4b1 : (a2 != 0) = false := bne_eq_false_iff_eq.mpr c4
    clear c4
    obtain rfl := Option.some.inj H
    go_enter Tryz.func110, Tryz.ntmps110
    go_wp2
    go_ret
    exact ⟨by first | rfl | (simp; done) | (simp [*]; done), by repeat (first | exact Drawn0.refl _ | apply Drawn0.step)⟩
  rw [if_neg c4] at H
  have c4b0 : (a2 == 0) = false := beq_eq_false_iff_ne.mpr c4
  have c4b1 : (a2 != 0) = true := bne_iff_ne.mpr c4
  replace H := Option.bind_eq_some_iff.mp H
  obtain ⟨⟨t286, t287⟩, A50, H⟩ := H
  try dsimp only at H
  have A5 := Aside0.mk A50
  clear A50
  replace H := Option.bind_eq_some_iff.mp H
  obtain ⟨⟨t288, t289⟩, A60, H⟩ := H
  replace H : (some t289) = some r := H
  have A6 := Aside0.mk A60
  clear A60
  obtain rfl := Option.some.inj H
  go_enter Tryz.func110, Tryz.ntmps110
  go_wp2_with (first | ((with_reducible refine gate_callee (f := 140) rfl ?_); refine goesL_ (some 16) rfl rfl Tryz.func140 (by kernel_rfl) rfl #[.int .u64 a0, .int .u64 a1] rfl ga_ ?_; (with_reducible refine (bits_Mul64.calls a0 a1 t286 t287 _ A5.out).mono ?_); rintro e w' ⟨rfl, ⟨nd, rfl⟩⟩; refine ⟨_, rfl, ?_⟩) | ((with_reducible refine gate_callee (f := 141) rfl ?_); refine goesL_ (some 25) rfl rfl Tryz.func141 (by kernel_rfl) rfl #[.int .u64 (Int.tmod t286 a2), .int .u64 t287, .int .u64 a2] rfl ga_ ?_; (with_reducible refine (bits_Div64.calls k (Int.tmod t286 a2) t287 a2 t288 t289 _ A6.out).mono ?_); rintro e w' ⟨rfl, ⟨nd, rfl⟩⟩; refine ⟨_, rfl, ?_⟩))
  go_ret
  exact ⟨by first | rfl | (simp; done) | (simp [*]; done), by repeat (first | exact Drawn0.refl _ | apply Drawn0.step)⟩

def impl_num_impl_fieldP_times.f (k : Nat) (a0_0 : Int) (a1_0 : Int) : Option (Int) := (impl_prime_impl_fieldP.f).bind fun t293 => ((impl_MulMod.f k a0_0 a1_0 t293).bind fun t294 => (some t294))
set_option maxRecDepth 100000 in
set_option maxHeartbeats 4000000 in
theorem impl_num_impl_fieldP_times.calls (k : Nat) (a0_0 : Int) (a1_0 : Int) (r : Int) (w : World) (h : impl_num_impl_fieldP_times.f k a0_0 a1_0 = some r) :
    Calls Tryz.prog 116 #[.agg #[.int .u64 a0_0], .agg #[.int .u64 a1_0]] w fun e w' => e = .returned (.agg #[.int .u64 r]) ∧ Below w.heap.size w w' := by
  unfold impl_num_impl_fieldP_times.f at h
  repeat' (first | (rw [Option.bind_eq_some_iff] at h; obtain ⟨_, _, h⟩ := h) | (split at h) | (cases h <;> fail) | (replace h := Option.some.inj h) | (have h3_ := (Prod.mk.inj h).1; replace h := (Prod.mk.inj h).2; subst h3_) | (subst h))
  all_goals try contradiction
  all_goals refine ve_fn (args := [.agg #[.int .u64 a0_0], .agg #[.int .u64 a1_0]]) Tryz.func116 rfl Tryz.ntmps116 rfl (good (Γ := fun _ => True) (fun _ _ => trivial)) ?_
  all_goals repeat' (first | refine rbt ?_ | refine rbf ?_ | refine wn ?_ | refine wq ?_ | refine wc_plain ?_ | refine wc_draw ?_ | refine rZ ?_ | refine rD ?_ | refine ve8 ?_ | refine ve4 ?_ | refine ve3 ?_ | refine ve1 ?_ | refine ve2 ?_ | refine ve5 ?_ | refine ve6 ?_ | refine ve7 ?_ | refine ve9 ?_ | refine rA ?_ | refine rE ?_ | refine rC ?_ | refine rB ?_ | refine rG ?_ | refine rH ?_ | refine rI ?_ | refine rJ ?_ | refine rcb ?_ | refine rcp (Pre := impl_prime_impl_fieldP.f = some _) (fun hp_ w_ hΓ => impl_prime_impl_fieldP.calls _ w_ hp_) ?_ | refine rcp (Pre := impl_MulMod.f _ _ _ _ = some _) (fun hp_ w_ hΓ => drb (impl_MulMod.calls _ _ _ _ _ w_ hp_)) ?_ | refine rel (fun w_ hΓ => ld_zero (by first  |  exact hΓ.z  |  exact hΓ.1.z  |  exact hΓ.1  |  exact hΓ)) ?_  |  refine req (fun w_ => eq_pt w_) ?_  |  refine req (fun w_ => ne_pt w_) ?_  |  refine req (fun w_ => eq_num w_) ?_  |  refine rsh ?_  |  refine rsl_ ?_  |  refine rslh ?_ | refine wb ?_ | refine wk ?_ | refine we ?_ | exact wt | refine wr ?_ | refine rr1 ?_ | refine rr2 ?_ | exact fr | exact fe | refine wTs ?_ | refine wFs ?_ | refine rof ?_ | refine rof0 ?_)

def impl_num_impl_fieldP_plus.f (a0_0 : Int) (a1_0 : Int) : Option (Int) := (impl_prime_impl_fieldP.f).bind fun t298 => (if (IntKind.u64.wrap (a0_0 + a1_0)) ≥ t298 then (some (IntKind.u64.wrap ((IntKind.u64.wrap (a0_0 + a1_0)) - t298))) else (some (IntKind.u64.wrap (a0_0 + a1_0))))
set_option maxRecDepth 100000 in
set_option maxHeartbeats 4000000 in
theorem impl_num_impl_fieldP_plus.calls (a0_0 : Int) (a1_0 : Int) (r : Int) (w : World) (h : impl_num_impl_fieldP_plus.f a0_0 a1_0 = some r) :
    Calls Tryz.prog 144 #[.agg #[.int .u64 a0_0], .agg #[.int .u64 a1_0]] w fun e w' => e = .returned (.agg #[.int .u64 r]) ∧ Below w.heap.size w w' := by
  unfold impl_num_impl_fieldP_plus.f at h
  repeat' (first | (rw [Option.bind_eq_some_iff] at h; obtain ⟨_, _, h⟩ := h) | (split at h) | (cases h <;> fail) | (replace h := Option.some.inj h) | (have h3_ := (Prod.mk.inj h).1; replace h := (Prod.mk.inj h).2; subst h3_) | (subst h))
  all_goals try contradiction
  all_goals refine ve_fn (args := [.agg #[.int .u64 a0_0], .agg #[.int .u64 a1_0]]) Tryz.func144 rfl Tryz.ntmps144 rfl (good (Γ := fun _ => True) (fun _ _ => trivial)) ?_
  all_goals repeat' (first | refine rbt ?_ | refine rbf ?_ | refine wn ?_ | refine wq ?_ | refine wc_plain ?_ | refine wc_draw ?_ | refine rZ ?_ | refine rD ?_ | refine ve8 ?_ | refine ve4 ?_ | refine ve3 ?_ | refine ve1 ?_ | refine ve2 ?_ | refine ve5 ?_ | refine ve6 ?_ | refine ve7 ?_ | refine ve9 ?_ | refine rA ?_ | refine rE ?_ | refine rC ?_ | refine rB ?_ | refine rG ?_ | refine rH ?_ | refine rI ?_ | refine rJ ?_ | refine rcb ?_ | refine rcp (Pre := impl_prime_impl_fieldP.f = some _) (fun hp_ w_ hΓ => impl_prime_impl_fieldP.calls _ w_ hp_) ?_ | refine rel (fun w_ hΓ => ld_zero (by first  |  exact hΓ.z  |  exact hΓ.1.z  |  exact hΓ.1  |  exact hΓ)) ?_  |  refine req (fun w_ => eq_pt w_) ?_  |  refine req (fun w_ => ne_pt w_) ?_  |  refine req (fun w_ => eq_num w_) ?_  |  refine rsh ?_  |  refine rsl_ ?_  |  refine rslh ?_ | refine wb ?_ | refine wk ?_ | refine we ?_ | exact wt | refine wr ?_ | refine rr1 ?_ | refine rr2 ?_ | exact fr | exact fe | refine wTs ?_ | refine wFs ?_ | refine rof ?_ | refine rof0 ?_)

def impl_num_impl_fieldP_negative.f (a0_0 : Int) : Option (Int) := if a0_0 = 0 then (some a0_0) else ((impl_prime_impl_fieldP.f).bind fun t301 => (some (IntKind.u64.wrap (t301 - a0_0))))
set_option maxRecDepth 100000 in
set_option maxHeartbeats 4000000 in
theorem impl_num_impl_fieldP_negative.calls (a0_0 : Int) (r : Int) (w : World) (h : impl_num_impl_fieldP_negative.f a0_0 = some r) :
    Calls Tryz.prog 158 #[.agg #[.int .u64 a0_0]] w fun e w' => e = .returned (.agg #[.int .u64 r]) ∧ Below w.heap.size w w' := by
  unfold impl_num_impl_fieldP_negative.f at h
  repeat' (first | (rw [Option.bind_eq_some_iff] at h; obtain ⟨_, _, h⟩ := h) | (split at h) | (cases h <;> fail) | (replace h := Option.some.inj h) | (have h3_ := (Prod.mk.inj h).1; replace h := (Prod.mk.inj h).2; subst h3_) | (subst h))
  all_goals try contradiction
  all_goals refine ve_fn (args := [.agg #[.int .u64 a0_0]]) Tryz.func158 rfl Tryz.ntmps158 rfl (good (Γ := fun _ => True) (fun _ _ => trivial)) ?_
  all_goals repeat' (first | refine rbt ?_ | refine rbf ?_ | refine wn ?_ | refine wq ?_ | refine wc_plain ?_ | refine wc_draw ?_ | refine rZ ?_ | refine rD ?_ | refine ve8 ?_ | refine ve4 ?_ | refine ve3 ?_ | refine ve1 ?_ | refine ve2 ?_ | refine ve5 ?_ | refine ve6 ?_ | refine ve7 ?_ | refine ve9 ?_ | refine rA ?_ | refine rE ?_ | refine rC ?_ | refine rB ?_ | refine rG ?_ | refine rH ?_ | refine rI ?_ | refine rJ ?_ | refine rcb ?_ | refine rcp (Pre := impl_prime_impl_fieldP.f = some _) (fun hp_ w_ hΓ => impl_prime_impl_fieldP.calls _ w_ hp_) ?_ | refine rel (fun w_ hΓ => ld_zero (by first  |  exact hΓ.z  |  exact hΓ.1.z  |  exact hΓ.1  |  exact hΓ)) ?_  |  refine req (fun w_ => eq_pt w_) ?_  |  refine req (fun w_ => ne_pt w_) ?_  |  refine req (fun w_ => eq_num w_) ?_  |  refine rsh ?_  |  refine rsl_ ?_  |  refine rslh ?_ | refine wb ?_ | refine wk ?_ | refine we ?_ | exact wt | refine wr ?_ | refine rr1 ?_ | refine rr2 ?_ | exact fr | exact fe | refine wTs ?_ | refine wFs ?_ | refine rof ?_ | refine rof0 ?_)

def impl_num_impl_fieldP_minus.f (a0_0 : Int) (a1_0 : Int) : Option (Int) := (impl_num_impl_fieldP_negative.f a1_0).bind fun t305 => ((impl_num_impl_fieldP_plus.f a0_0 t305).bind fun t306 => (some t306))
set_option maxRecDepth 100000 in
set_option maxHeartbeats 4000000 in
theorem impl_num_impl_fieldP_minus.calls (a0_0 : Int) (a1_0 : Int) (r : Int) (w : World) (h : impl_num_impl_fieldP_minus.f a0_0 a1_0 = some r) :
    Calls Tryz.prog 139 #[.agg #[.int .u64 a0_0], .agg #[.int .u64 a1_0]] w fun e w' => e = .returned (.agg #[.int .u64 r]) ∧ Below w.heap.size w w' := by
  unfold impl_num_impl_fieldP_minus.f at h
  repeat' (first | (rw [Option.bind_eq_some_iff] at h; obtain ⟨_, _, h⟩ := h) | (split at h) | (cases h <;> fail) | (replace h := Option.some.inj h) | (have h3_ := (Prod.mk.inj h).1; replace h := (Prod.mk.inj h).2; subst h3_) | (subst h))
  all_goals try contradiction
  all_goals refine ve_fn (args := [.agg #[.int .u64 a0_0], .agg #[.int .u64 a1_0]]) Tryz.func139 rfl Tryz.ntmps139 rfl (good (Γ := fun _ => True) (fun _ _ => trivial)) ?_
  all_goals repeat' (first | refine rbt ?_ | refine rbf ?_ | refine wn ?_ | refine wq ?_ | refine wc_plain ?_ | refine wc_draw ?_ | refine rZ ?_ | refine rD ?_ | refine ve8 ?_ | refine ve4 ?_ | refine ve3 ?_ | refine ve1 ?_ | refine ve2 ?_ | refine ve5 ?_ | refine ve6 ?_ | refine ve7 ?_ | refine ve9 ?_ | refine rA ?_ | refine rE ?_ | refine rC ?_ | refine rB ?_ | refine rG ?_ | refine rH ?_ | refine rI ?_ | refine rJ ?_ | refine rcb ?_ | refine rcp (Pre := impl_num_impl_fieldP_negative.f _ = some _) (fun hp_ w_ hΓ => impl_num_impl_fieldP_negative.calls _ _ w_ hp_) ?_ | refine rcp (Pre := impl_num_impl_fieldP_plus.f _ _ = some _) (fun hp_ w_ hΓ => impl_num_impl_fieldP_plus.calls _ _ _ w_ hp_) ?_ | refine rel (fun w_ hΓ => ld_zero (by first  |  exact hΓ.z  |  exact hΓ.1.z  |  exact hΓ.1  |  exact hΓ)) ?_  |  refine req (fun w_ => eq_pt w_) ?_  |  refine req (fun w_ => ne_pt w_) ?_  |  refine req (fun w_ => eq_num w_) ?_  |  refine rsh ?_  |  refine rsl_ ?_  |  refine rslh ?_ | refine wb ?_ | refine wk ?_ | refine we ?_ | exact wt | refine wr ?_ | refine rr1 ?_ | refine rr2 ?_ | exact fr | exact fe | refine wTs ?_ | refine wFs ?_ | refine rof ?_ | refine rof0 ?_)

end Go.Proofs.YtgdcafbdkidamaaGreatDoor.B
end
section
namespace Go.Proofs.YtgdcafbdkidamaaGreatDoor.B
open Go.Proofs.YtgdcafbdkidamaaGreatDoor.Sq Go.RowKit Go.Proofs.YtgdcafbdkidamaaGreatDoor.H0 Go.Proofs.YtgdcafbdkidamaaGreatDoor.F0 Go.Proofs.YtgdcafbdkidamaaGreatDoorW.PrintWords Go.Proofs.YtgdcafbdkidamaaGreatDoorW.PrintLast Go.Proofs.YtgdcafbdkidamaaGreatDoorW.PrintMore Go.Proofs.YtgdcafbdkidamaaGreatDoor.Ve Go.Proofs.YtgdcafbdkidamaaGreatDoor.VeT Go.Proofs.YtgdcafbdkidamaaGreatDoor.VeE
attribute [local go_sem high] field_num_fieldP   -- for this text's walks alone
attribute [local go_sem] max2_int min2_int max_two min_two max_three min_three max_four min_four   -- for this text's walks alone
set_option linter.unusedVariables false
set_option linter.unusedSimpArgs false
def impl_curveAt.f (k : Nat) (a0_0 : Int) : Option (Int) := (impl_num_impl_fieldP_times.f k a0_0 a0_0).bind fun t310 => ((impl_num_impl_fieldP_minus.f t310 3).bind fun t311 => ((impl_num_impl_fieldP_times.f k t311 a0_0).bind fun t312 => ((impl_num_impl_fieldP_plus.f t312 111).bind fun t313 => (some t313))))
set_option maxRecDepth 100000 in
set_option maxHeartbeats 4000000 in
theorem impl_curveAt.calls (k : Nat) (a0_0 : Int) (r : Int) (w : World) (h : impl_curveAt.f k a0_0 = some r) :
    Calls Tryz.prog 117 #[.agg #[.int .u64 a0_0]] w fun e w' => e = .returned (.agg #[.int .u64 r]) ∧ Below w.heap.size w w' := by
  unfold impl_curveAt.f at h
  repeat' (first | (rw [Option.bind_eq_some_iff] at h; obtain ⟨_, _, h⟩ := h) | (split at h) | (cases h <;> fail) | (replace h := Option.some.inj h) | (have h3_ := (Prod.mk.inj h).1; replace h := (Prod.mk.inj h).2; subst h3_) | (subst h))
  all_goals try contradiction
  all_goals refine ve_fn (args := [.agg #[.int .u64 a0_0]]) Tryz.func117 rfl Tryz.ntmps117 rfl (good (Γ := fun _ => True) (fun _ _ => trivial)) ?_
  all_goals repeat' (first | refine rbt ?_ | refine rbf ?_ | refine wn ?_ | refine wq ?_ | refine wc_plain ?_ | refine wc_draw ?_ | refine rZ ?_ | refine rD ?_ | refine ve8 ?_ | refine ve4 ?_ | refine ve3 ?_ | refine ve1 ?_ | refine ve2 ?_ | refine ve5 ?_ | refine ve6 ?_ | refine ve7 ?_ | refine ve9 ?_ | refine rA ?_ | refine rE ?_ | refine rC ?_ | refine rB ?_ | refine rG ?_ | refine rH ?_ | refine rI ?_ | refine rJ ?_ | refine rcb ?_ | refine rcp (Pre := impl_num_impl_fieldP_times.f _ _ _ = some _) (fun hp_ w_ hΓ => impl_num_impl_fieldP_times.calls _ _ _ _ w_ hp_) ?_ | refine rcp (Pre := impl_num_impl_fieldP_minus.f _ _ = some _) (fun hp_ w_ hΓ => impl_num_impl_fieldP_minus.calls _ _ _ w_ hp_) ?_ | refine rcp (Pre := impl_num_impl_fieldP_plus.f _ _ = some _) (fun hp_ w_ hΓ => impl_num_impl_fieldP_plus.calls _ _ _ w_ hp_) ?_ | refine rel (fun w_ hΓ => ld_zero (by first  |  exact hΓ.z  |  exact hΓ.1.z  |  exact hΓ.1  |  exact hΓ)) ?_  |  refine req (fun w_ => eq_pt w_) ?_  |  refine req (fun w_ => ne_pt w_) ?_  |  refine req (fun w_ => eq_num w_) ?_  |  refine rsh ?_  |  refine rsl_ ?_  |  refine rslh ?_ | refine wb ?_ | refine wk ?_ | refine we ?_ | exact wt | refine wr ?_ | refine rr1 ?_ | refine rr2 ?_ | exact fr | exact fe | refine wTs ?_ | refine wFs ?_ | refine rof ?_ | refine rof0 ?_)

def impl_bigEndian.l0 : Nat → Int → Int → List Int → Int → Int → Option (ByteArray)
  | 0, _, _, _, _, _ => none
  | k + 1, x0, x1, x5, x10, x11 => if x11 < x10 then (if 0 ≤ (wrap64 (8 * (wrap64 ((wrap64 (x1 - 1)) - x11)))) then (if 0 ≤ x11 then (if x11 < (x5.length : Int) then (impl_bigEndian.l0 k x0 x1 (x5.set (x11 : Int).toNat ((shr .u64 x0 (wrap64 (8 * (wrap64 ((wrap64 (x1 - 1)) - x11))))) % 256)) x10 (wrap64 (x11 + 1))) else (none)) else (none)) else (none)) else (some (strOfNums x5))
def impl_bigEndian.f (k : Nat) (a0 : Int) (a1 : Int) : Option (ByteArray) := if 0 ≤ a1 then (if (a1 : Int).toNat ≤ 281474976710656 then ((some (List.replicate (a1 : Int).toNat 0 : List Int)).bind fun y318 => (impl_bigEndian.l0 k a0 a1 y318 (y318.length : Int) 0)) else (none)) else (none)
theorem impl_bigEndian.mono_l : ∀ k, (∀ y0 y1 y2 y3 y4, LeO (impl_bigEndian.l0 k y0 y1 y2 y3 y4) (impl_bigEndian.l0 (k + 1) y0 y1 y2 y3 y4))
  | 0 => fun _ _ _ _ _ r h => by simp [impl_bigEndian.l0] at h
  | k + 1 => by
    have ih0 := impl_bigEndian.mono_l k
    · intro y0 y1 y2 y3 y4
      unfold impl_bigEndian.l0
      repeat' first
      | (with_reducible exact ih0 _ _ _ _ _)
      | (with_reducible exact LeO.refl _)
      | (with_reducible exact LeO.none _)
      | (with_reducible refine LeO.ite ?_ ?_)
      | (with_reducible refine LeO.bind ?_ (fun _ => ?_))
      | exact ih0 _ _ _ _ _
      | exact LeO.none _
      | refine LeO.ite ?_ ?_
      | refine LeO.bind ?_ (fun _ => ?_)
theorem impl_bigEndian.mono : ∀ a0 a1 k, LeO (impl_bigEndian.f k a0 a1) (impl_bigEndian.f (k + 1) a0 a1) := by
  intro a0 a1 k
  have ih0 := impl_bigEndian.mono_l k
  unfold impl_bigEndian.f
  repeat' first
      | (with_reducible exact ih0 _ _ _ _ _)
      | (with_reducible exact LeO.refl _)
      | (with_reducible exact LeO.none _)
      | (with_reducible refine LeO.ite ?_ ?_)
      | (with_reducible refine LeO.bind ?_ (fun _ => ?_))
      | exact ih0 _ _ _ _ _
      | exact LeO.none _
      | refine LeO.ite ?_ ?_
      | refine LeO.bind ?_ (fun _ => ?_)
set_option maxHeartbeats 8000000 in
set_option maxRecDepth 100000 in
theorem impl_bigEndian.calls (k : Nat) (a0 : Int) (a1 : Int) (r : ByteArray) (w : World) (h : impl_bigEndian.f k a0 a1 = some r) :
    Calls Tryz.prog 105 #[.int .u64 a0, .int .i64 a1] w fun e w' => e = .returned (.string r) ∧ Below w.heap.size w w' := by
  have HB := Aside0.mk (Below.refl w.heap.size w)
  have H : (if 0 ≤ a1 then (if (a1 : Int).toNat ≤ 281474976710656 then ((some (List.replicate (a1 : Int).toNat 0 : List Int)).bind fun y318 => (impl_bigEndian.l0 k a0 a1 y318 (y318.length : Int) 0)) else (none)) else (none)) = some r := h
  clear h
  by_cases c3 : 0 ≤ a1
  rotate_left
  · rw [if_neg c3] at H
    exact absurd H (by simp)

  rw [if_pos c3] at H
  have c3b0 := eq_true c3
  have c3b1 := decide_eq_true c3
  clear c3
  by_cases c4 : (a1 : Int).toNat ≤ 281474976710656
  rotate_left
  · rw [if_neg c4] at H
    exact absurd H (by simp)
  rw [if_pos c4] at H
  have c4b0 := eq_true c4
  have c4b1 := decide_eq_true c4
  clear c4
  obtain ⟨y318, hy318⟩ : ∃ y_ : List Int, y_ = (List.replicate (a1 : Int).toNat 0) := ⟨_, rfl⟩
  replace H : (impl_bigEndian.l0 k a0 a1 y318 (y318.length : Int) 0) = some r := by first | (rw [hy318]; with_reducible exact H) | (have H2_ := (Option.bind_some _ _).symm.trans H; rw [hy318]; with_reducible exact H2_) | (have H2_ := (Option.bind_some _ _).symm.trans H; with_reducible exact H2_) | with_reducible exact H | (rw [hy318]; exact H) | exact H
  have Ny318 := Aside0.mk hy318
  clear hy318
  have H' := Aside0.mk H
  clear H
  go_enter Tryz.func105, Tryz.ntmps105
  go_wp2_with (first | ((with_reducible refine gate_dst (N := 8) rfl ?_); refine Kd.R_make (Kd.int .u8) _ 5 rfl (N := 8) rfl 46 _ _ rfl a1 rfl rfl Tryz.underlying46 (.int .u8 0) 1 info5 rfl (by decide) (by omega) 0 (ok := fun _ => True) (okp := fun _ => True) rfl (fun _ hk => hk) trivial (of_decide_eq_true as_) (Nat.le_trans (Nat.mul_le_mul_right _ (of_decide_eq_true as_ : a1.toNat ≤ 281474976710656)) (by omega)) (Below.refl _ _) (Nat.le_refl _) ?_; intro v319 w5 ho6 hb hg_ hnew_; clear hg_ hnew_; (first | rw [← Ny318.out] at ho6 | (simp only [Int.reduceToNat] at ho6; rw [← Ny318.out] at ho6)); have n0_ := Aside0.mk (Kd.R_lower ho6 (below_size hb_)); have n1_ := Aside0.mk (below_step hb_ hb); clear HB; have HO320 := n0_; have HB := n1_; clear n0_ n1_; clear hb ho6; obtain ⟨Ao7, co7, eo7⟩ := Kd.R_slice HO320.out; subst eo7))
  go_loopg [11] k (fun kq v11 w' => ∃ (x5_1 : List Int) (x11_1 : Int), v11 = .int .i64 x11_1 ∧ Aside0 (impl_bigEndian.l0 kq a0 a1 x5_1 (y318.length : Int) x11_1 = some r) ∧ Aside0 (kq ≤ k) ∧ Aside0 (Kd.R (Kd.int .u8) 5 w' w.heap.size (fun _ => True) (.slice Ao7 y318.length co7) x5_1) ∧ Aside0 (Below w.heap.size w w'))
  case atStart => exact ⟨(y318), (0), rs_, H', ⟨Nat.le_refl _⟩, ⟨by (with_reducible repeat (first | apply Kd.R_alloc | apply Kd.R_drewN | apply Kd.R_drew)); exact HO320.out⟩, ⟨by repeat (first | (with_reducible first | exact HB.out | apply below_alloc | apply pw_below_drewN | apply below_drew1) | exact HB.out)⟩⟩
  case round =>
    clear H'
    try clear c1
    try clear p2
    try clear c3
    try clear c3b0
    try clear c3b1
    try clear c4
    try clear c4b0
    try clear c4b1
    obtain ⟨x5_1, x11_1, rfl, HA, HK1, HO_5, HB⟩ := hrel
    have hl5_1 := (Kd.R_reads' HO_5.out).1
    rw [hl5_1] at HO_5
    (try simp only [hl5_1])
    cases gk with
    | zero => exact absurd HA.out (by simp [impl_bigEndian.l0])
    | succ k1 =>
      have H := HA.out
      clear HA
      simp only [impl_bigEndian.l0] at H
      by_cases c8 : x11_1 < (y318.length : Int)
      rotate_left
      · rw [if_neg c8] at H
        have c8b0 := decide_eq_false c8
        (try simp only [hl5_1] at c8b0)
        clear c8
        obtain rfl := Option.some.inj H
        have hcv17 := own_string (P := Tryz.prog) Tryz.underlying46 Tryz.underlying5 Tryz.underlying9 (Kd.own_of_R HO_5.out)
        go_wp2
        go_ret
        exact ⟨by first | rfl | (simp [errW_none, errW_some] <;> rfl) | (simp [*, errW_none, errW_some] <;> rfl), by repeat (first | (with_reducible first | exact HB.out | apply below_alloc | apply pw_below_drewN | apply below_drew1) | exact HB.out)⟩
      rw [if_pos c8] at H
      have c8b0 := decide_eq_true c8
      (try simp only [hl5_1] at c8b0)
      clear c8
      obtain ⟨ji9, hji9⟩ : ∃ j_ : Int, (wrap64 (8 * (wrap64 ((wrap64 (a1 - 1)) - x11_1)))) = j_ := ⟨_, rfl⟩
      replace H : (if 0 ≤ (ji9) then (if 0 ≤ x11_1 then (if x11_1 < (x5_1.length : Int) then (impl_bigEndian.l0 k1 a0 a1 (x5_1.set (x11_1 : Int).toNat ((shr .u64 a0 (ji9)) % 256)) (y318.length : Int) (wrap64 (x11_1 + 1))) else (none)) else (none)) else (none)) = some r := by first | (rw [hji9] at H; exact H) | (simp only [hji9] at H ⊢; exact H)
      have hji9w : (IntKind.i64.wrap (8 * (wrap64 ((wrap64 (a1 - 1)) - x11_1)))) = ji9 := (i64_w _).trans hji9
      by_cases c10 : 0 ≤ (ji9)
      rotate_left
      · rw [if_neg c10] at H
        exact absurd H (by simp)
      rw [if_pos c10] at H
      have c10b0 := eq_true c10
      have c10b1 := decide_eq_true c10
      clear c10
      obtain ⟨ji11, hji11⟩ : ∃ j_ : Int, (shr .u64 a0 (ji9)) = j_ := ⟨_, rfl⟩
      replace H : (if 0 ≤ x11_1 then (if x11_1 < (x5_1.length : Int) then (impl_bigEndian.l0 k1 a0 a1 (x5_1.set (x11_1 : Int).toNat ((ji11) % 256)) (y318.length : Int) (wrap64 (x11_1 + 1))) else (none)) else (none)) = some r := by first | (rw [hji11] at H; exact H) | (simp only [hji11] at H ⊢; exact H)
      have hji11_ : (a0 / 2 ^ min (ji9).toNat 64) = ji11 := hji11
      have hji11z : (ji9) ≤ 64 → (a0 / 2 ^ (ji9).toNat) = ji11 := shr_small hji11
      by_cases c12 : 0 ≤ x11_1
      rotate_left
      · rw [if_neg c12] at H
        exact absurd H (by simp)
      rw [if_pos c12] at H
      have c12b0 := decide_eq_true c12
      clear c12
      by_cases c13 : x11_1 < (x5_1.length : Int)
      rotate_left
      · rw [if_neg c13] at H
        exact absurd H (by simp)
      rw [if_pos c13] at H
      have c13b0 := decide_eq_true c13
      clear c13
      obtain ⟨y321, hy321⟩ : ∃ y_ : List Int, y_ = (x5_1.set (x11_1 : Int).toNat ((ji11) % 256)) := ⟨_, rfl⟩
      replace H : (impl_bigEndian.l0 k1 a0 a1 y321 (y318.length : Int) (wrap64 (x11_1 + 1))) = some r := by first | (rw [hy321]; with_reducible exact H) | (have H2_ := (Option.bind_some _ _).symm.trans H; rw [hy321]; with_reducible exact H2_) | (have H2_ := (Option.bind_some _ _).symm.trans H; with_reducible exact H2_) | with_reducible exact H | (rw [hy321]; exact H) | exact H
      have Ny321 := Aside0.mk hy321
      clear hy321
      have H' := Aside0.mk H
      clear H
      have p14 : 0 ≤ (x11_1 : Int) := of_decide_eq_true as_
      have q14 : (x11_1 : Int) < ((x5_1.length : Int) : Int) := of_decide_eq_true as_
      obtain ⟨go14, co14, eo14, gb14, gl14, cl14, HG14⟩ := Kd.R_form HO_5.out (by omega)
      (first | cases eo14 | (injection eo14 with ea_ en_ ec_; (first | subst ea_ | (injection ea_ with ea_; subst ea_)); subst ec_; clear en_))
      have GB14 := Aside0.mk gb14
      have GG14 := Aside0.mk HG14
      clear gb14 gl14 HG14
      obtain ⟨hx14_0, hf14_0⟩ := Kd.R_celln 0 HO_5.out (x11_1 : Int) p14 q14
      replace p14 := eq_true p14
      replace q14 := eq_true q14
      have HP15 := Kd.R_putg HO_5.out (x11_1 : Int) ((ji11) % 256)
      go_wp2_with (first | ((with_reducible refine gate_store (t := 5) (p := 24) rfl ?_); refine store_event (t := 5) (p := 24) (v := ?vo_w16) (w1 := (wr.setCell ⟨go14, (x11_1 : Int).toNat, none⟩ (.int .u8 ((ji11) % 256)))) ?hg ?ho ?hn ?hr ?_; (case ho => rfl); (case hg => rfl); (case hn => rfl); (case hr => first | (go_simp; done) | (go_simp; rfl)); intro w16 hw; have hg : wr.grownBy w16 (some go14) := (by rw [hw]; exact HP15.2); have hp_ : Kd.R (Kd.int .u8) 5 w16 w.heap.size (fun _ => True) (.slice (some ⟨go14, 0, none⟩) x5_1.length co7) y321 := (by rw [hw, Ny321.out]; exact HP15.1); clear HP15; have n0_ := Aside0.mk (hp_); have n1_ := Aside0.mk ((by rw [hw]; exact below_set (HB.out) GB14.out : Below w.heap.size w w16)); clear HO_5; clear HB; have HO_5 := n0_; have HB := n1_; clear n0_ n1_; clear hg hw hp_))
      (try simp only [← hl5_1])
      go_roundg k1
      case measure => have := HK1.out; omega
      case rel => exact ⟨(y321), (wrap64 (x11_1 + 1)), rs_, H', ⟨by have := HK1.out; omega⟩, ⟨by (try simp only [hl5_1]); (with_reducible repeat (first | apply Kd.R_alloc | apply Kd.R_drewN | apply Kd.R_drew)); exact HO_5.out⟩, ⟨by repeat (first | (with_reducible first | exact HB.out | apply below_alloc | apply pw_below_drewN | apply below_drew1) | exact HB.out)⟩⟩
end Go.Proofs.YtgdcafbdkidamaaGreatDoor.B
end
section
namespace Go.Proofs.YtgdcafbdkidamaaGreatDoor.Sx
open Go.RowKit Go.Proofs.YtgdcafbdkidamaaGreatDoor.B Go.Proofs.YtgdcafbdkidamaaGreatDoor.H0 Go.Proofs.YtgdcafbdkidamaaGreatDoorW.PrintWords Go.Proofs.YtgdcafbdkidamaaGreatDoorW.PrintLast Go.Proofs.YtgdcafbdkidamaaGreatDoorW.PrintMore
set_option linter.unusedVariables false
set_option linter.unusedSimpArgs false
/-- a word turned to the right -/
def tn (x n : Int) : Int := Go.bits .or .u32 (shr .u32 x n) (shl .u32 x (32 - n))
theorem or_comm32 (a b : Int) : Go.bits .or .u32 a b = Go.bits .or .u32 b a := by
  show IntKind.u32.wrap ((BitVec.ofInt 32 a ||| BitVec.ofInt 32 b).toNat : Int) = IntKind.u32.wrap ((BitVec.ofInt 32 b ||| BitVec.ofInt 32 a).toNat : Int)
  rw [BitVec.or_comm]
theorem turn_tn (x n : Int) (h0 : 0 < n) (h : n < 32) : spec_l1Turn.f x n = some (tn x n) := by
  have e1 : IntKind.u64.wrap n = n := K0.wu (by omega) (by omega)
  have e2 : IntKind.u64.wrap (wrap64 (32 - n)) = 32 - n := by
    have : wrap64 (32 - n) = 32 - n := by unfold wrap64; omega
    rw [this, K0.wu (by omega) (by omega)]
  unfold spec_l1Turn.f tn
  rw [e1, e2, if_pos (by omega), if_pos (by omega)]
end Go.Proofs.YtgdcafbdkidamaaGreatDoor.Sx
end
section
namespace Go.Proofs.YtgdcafbdkidamaaGreatDoor.K0
open Go Go.RowKit Go.Proofs.YtgdcafbdkidamaaGreatDoorW.PrintWords Go.Proofs.YtgdcafbdkidamaaGreatDoorW.PrintLast Go.Proofs.YtgdcafbdkidamaaGreatDoorW.PrintMore
set_option linter.unusedVariables false
set_option linter.unusedSimpArgs false
theorem rot_c (x n : Int) (h0 : 0 < n) (h : n < 32) (w : World) :
    Calls Tryz.prog 171 #[.int .u32 x, .int .i64 (-n)] w fun e w' => e = .returned (.int .u32 (Sx.tn x n)) ∧ w' = w := by
  have e1 : Go.bits .and .u64 (IntKind.u64.wrap (-n)) 31 = 32 - n := by
    have e0 : IntKind.u64.wrap (-n) = 18446744073709551616 - n := by
      simp only [IntKind.wrap, IntKind.bits, IntKind.signed]; simp; omega
    rw [e0]
    have := bits_mask .u64 64 (by decide) K0.wraps_u64 5 (by decide) (18446744073709551616 - n) (by omega) (by omega)
    have e : Go.bits .and .u64 (18446744073709551616 - n) 31 = (18446744073709551616 - n) % 32 := this
    rw [e]; omega
  have e2 : IntKind.u64.wrap (32 - (32 - n)) = n := by rw [wu (by omega) (by omega)]; omega
  go_enter Tryz.func171, Tryz.ntmps171
  go_wp2
  go_ret
  have k1 : shl .u32 x (32 - n) = x * 2 ^ (32 - n).toNat % 4294967296 := by
    have := shl_small (k := .u32) (x := x) (y := 32 - n) rfl (by show 32 - n ≤ ((32 : Nat) : Int); omega)
    rw [← this, wrap_u32]
  have k2 : shr .u32 x n = x / 2 ^ n.toNat := (shr_small (k := .u32) (x := x) (y := n) rfl (by show n ≤ ((32 : Nat) : Int); omega)).symm
  refine ⟨?_, rfl⟩
  show Ending.returned (.int .u32 (Go.bits .or .u32 (x * 2 ^ (32 - n).toNat % 4294967296) (x / 2 ^ n.toNat))) = _
  rw [Sx.tn, Sx.or_comm32, k1, k2]
end Go.Proofs.YtgdcafbdkidamaaGreatDoor.K0
end
section
namespace Go.Proofs.YtgdcafbdkidamaaGreatDoor.B
open Go.Proofs.YtgdcafbdkidamaaGreatDoor.Sq Go.RowKit Go.Proofs.YtgdcafbdkidamaaGreatDoor.H0 Go.Proofs.YtgdcafbdkidamaaGreatDoor.F0 Go.Proofs.YtgdcafbdkidamaaGreatDoorW.PrintWords Go.Proofs.YtgdcafbdkidamaaGreatDoorW.PrintLast Go.Proofs.YtgdcafbdkidamaaGreatDoorW.PrintMore
attribute [local go_sem high] field_num_fieldP   -- for this text's walks alone
attribute [local go_sem] max2_int min2_int max_two min_two max_three min_three max_four min_four   -- for this text's walks alone
set_option linter.unusedVariables false
set_option linter.unusedSimpArgs false
mutual
def spec_l1Schedule.l0 : Nat → List Int → Int → List Int → Int → Option (List Int)
  | 0, _, _, _, _ => none
  | k + 1, x0, x1, x5, x6 => if x6 < 16 then (if 0 ≤ (wrap64 (x1 + (wrap64 (4 * x6)))) then (if (wrap64 (x1 + (wrap64 (4 * x6)))) < (x0.length : Int) then (if 0 ≤ (wrap64 ((wrap64 (x1 + (wrap64 (4 * x6)))) + 1)) then (if (wrap64 ((wrap64 (x1 + (wrap64 (4 * x6)))) + 1)) < (x0.length : Int) then (if 0 ≤ (wrap64 ((wrap64 (x1 + (wrap64 (4 * x6)))) + 2)) then (if (wrap64 ((wrap64 (x1 + (wrap64 (4 * x6)))) + 2)) < (x0.length : Int) then (if 0 ≤ (wrap64 ((wrap64 (x1 + (wrap64 (4 * x6)))) + 3)) then (if (wrap64 ((wrap64 (x1 + (wrap64 (4 * x6)))) + 3)) < (x0.length : Int) then (if x5.length < 35184372088832 then (spec_l1Schedule.l0 k x0 x1 (x5 ++ [Go.bits .or .u32 (Go.bits .or .u32 (Go.bits .or .u32 ((((rd x0 (wrap64 (x1 + (wrap64 (4 * x6))))) % 4294967296) * 16777216) % 4294967296) ((((rd x0 (wrap64 ((wrap64 (x1 + (wrap64 (4 * x6)))) + 1))) % 4294967296) * 65536) % 4294967296)) ((((rd x0 (wrap64 ((wrap64 (x1 + (wrap64 (4 * x6)))) + 2))) % 4294967296) * 256) % 4294967296)) ((rd x0 (wrap64 ((wrap64 (x1 + (wrap64 (4 * x6)))) + 3))) % 4294967296)]) (wrap64 (x6 + 1))) else (none)) else (none)) else (none)) else (none)) else (none)) else (none)) else (none)) else (none)) else (none)) else (spec_l1Schedule.l1 k x5 16)
def spec_l1Schedule.l1 : Nat → List Int → Int → Option (List Int)
  | 0, _, _ => none
  | k + 1, x5, x8 => if x8 < 64 then (if 0 ≤ (wrap64 (x8 - 15)) then (if (wrap64 (x8 - 15)) < (x5.length : Int) then (if 0 ≤ (wrap64 (x8 - 2)) then (if (wrap64 (x8 - 2)) < (x5.length : Int) then ((spec_l1Turn.f (rd x5 (wrap64 (x8 - 15))) 7).bind fun t145 => ((spec_l1Turn.f (rd x5 (wrap64 (x8 - 15))) 18).bind fun t146 => ((spec_l1Turn.f (rd x5 (wrap64 (x8 - 2))) 17).bind fun t147 => ((spec_l1Turn.f (rd x5 (wrap64 (x8 - 2))) 19).bind fun t148 => (if 0 ≤ (wrap64 (x8 - 16)) then (if (wrap64 (x8 - 16)) < (x5.length : Int) then (if 0 ≤ (wrap64 (x8 - 7)) then (if (wrap64 (x8 - 7)) < (x5.length : Int) then (if x5.length < 35184372088832 then (spec_l1Schedule.l1 k (x5 ++ [((((((rd x5 (wrap64 (x8 - 16))) + (Go.bits .xor .u32 (Go.bits .xor .u32 t145 t146) ((rd x5 (wrap64 (x8 - 15))) / 8))) % 4294967296) + (rd x5 (wrap64 (x8 - 7)))) % 4294967296) + (Go.bits .xor .u32 (Go.bits .xor .u32 t147 t148) ((rd x5 (wrap64 (x8 - 2))) / 1024))) % 4294967296]) (wrap64 (x8 + 1))) else (none)) else (none)) else (none)) else (none)) else (none)))))) else (none)) else (none)) else (none)) else (none)) else (some x5)
end
def spec_l1Schedule.f (k : Nat) (l0 : List Int) (a1 : Int) : Option (List Int) := spec_l1Schedule.l0 k l0 a1 (([] : List Int)) 0
def spec_l1Schedule.T6 : Bool × List (List Nat × List Nat) := (true, [([], []), ([], []), ([], []), ([1, 2], [1, 2]), ([3], [3]), ([4], [4]), ([5], [5]), ([], []), ([], []), ([8], [8]), ([7, 9], [7, 9]), ([10], [10]), ([11], [11]), ([12], [12]), ([6, 13], [6, 13]), ([], []), ([], []), ([16], [16]), ([15, 17], [15, 17]), ([18], [18]), ([19], [19]), ([20], [20]), ([14, 21], [14, 21]), ([], []), ([], []), ([24], [24]), ([23, 25], [23, 25]), ([26], [26]), ([27], [27]), ([22, 28], [22, 28]), ([29], [29]), ([0, 30], [0, 30]), ([31, 31, 0, 1, 2, 3, 4, 5, 6, 7, 8, 9, 10, 11, 12, 13, 14, 15, 16, 17, 18, 19, 20, 21, 22, 23, 24, 25, 26, 27, 28, 29, 30, 31], [0, 31])])
def spec_l1Schedule.B6 : List Nat := [0, 0, 0, 6, 14, 30, 62, 0, 0, 256, 896, 1920, 3968, 8064, 16382, 0, 0, 65536, 229376, 491520, 1015808, 2064384, 4194302, 0, 0, 16777216, 58720256, 125829120, 260046848, 536870910, 1073741822, 2147483647, 4294967295]
theorem spec_l1Schedule.tab6 : rtab .any (opsOf Tryz.f154 6) = spec_l1Schedule.T6 := by kernel_rfl
theorem spec_l1Schedule.bits6 : waitsOk spec_l1Schedule.T6.2 spec_l1Schedule.B6 = true := by kernel_rfl
def spec_l1Schedule.T14 : Bool × List (List Nat × List Nat) := (true, [([], []), ([], []), ([], []), ([2], [2]), ([1, 3], [1, 3]), ([4], [4]), ([], []), ([5, 6], [5, 6]), ([], []), ([], []), ([9], [9]), ([8, 10], [8, 10]), ([11], [11]), ([7, 12], [7, 12]), ([], []), ([13, 14], [13, 14]), ([15], [15]), ([0, 16], [0, 16]), ([17, 17, 0, 1, 2, 3, 4, 5, 6, 7, 8, 9, 10, 11, 12, 13, 14, 15, 16, 17], [0, 1, 8, 17])])
def spec_l1Schedule.B14 : List Nat := [0, 0, 0, 4, 14, 30, 0, 126, 0, 0, 512, 1792, 3840, 8190, 0, 32766, 65534, 131071, 262143]
theorem spec_l1Schedule.tab14 : rtab .any (opsOf Tryz.f154 14) = spec_l1Schedule.T14 := by kernel_rfl
theorem spec_l1Schedule.bits14 : waitsOk spec_l1Schedule.T14.2 spec_l1Schedule.B14 = true := by kernel_rfl
set_option maxHeartbeats 8000000 in
set_option maxRecDepth 100000 in
theorem spec_l1Schedule.calls (k : Nat) (A0 : Option Addr) (c0 : Nat) (l0 : List Int) (a1 : Int) (r : List Int) (w : World) (hr0 : Kd.C (Kd.int .u8) w A0 l0.length l0) (hc0 : l0.length ≤ c0) (h : spec_l1Schedule.f k l0 a1 = some r) :
    Calls Tryz.prog 154 #[.slice A0 l0.length c0, .int .i64 a1] w fun e w' => ∃ v0_ : Value, e = .returned (v0_) ∧ Kd.R (Kd.int .u32) 171 w' w.heap.size (fun _ => True) v0_ r ∧ Below w.heap.size w w' := by
  have HR0 := Aside0.mk hr0
  have HC0 := Aside0.mk hc0
  clear hr0 hc0
  have HB := Aside0.mk (Below.refl w.heap.size w)
  have H : (spec_l1Schedule.l0 k l0 a1 (([] : List Int)) 0) = some r := h
  clear h
  obtain ⟨y133, hy133⟩ : ∃ y_ : List Int, y_ = (([] : List Int)) := ⟨_, rfl⟩
  replace H : (spec_l1Schedule.l0 k l0 a1 y133 0) = some r := by first | (rw [hy133]; with_reducible exact H) | (have H2_ := (Option.bind_some _ _).symm.trans H; rw [hy133]; with_reducible exact H2_) | (have H2_ := (Option.bind_some _ _).symm.trans H; with_reducible exact H2_) | with_reducible exact H | (rw [hy133]; exact H) | exact H
  have Ny133 := Aside0.mk hy133
  clear hy133
  have H' := Aside0.mk H
  clear H
  go_enter Tryz.func154, Tryz.ntmps154
  go_wp2_with (first | ((with_reducible refine gate_dst (N := 13) rfl ?_); refine Kd.R_lit (Kd.int .u32) _ 171 ?hg (N := 13) ?hd (xs := ([] : List Int)) (inner := []) (ok := fun _ => True) (okp := fun _ => True) ?hr ?hp (fun _ hk => hk) trivial (Below.refl _ _) (Nat.le_refl _) (by simp) ?_; (case hd => rfl); (case hg => rfl); (case hr => first | (go_simp; done) | (go_simp; rfl)); (case hp => exact (Reps.none _ _)); intro v134 w3 ho4 hb hg_ hnew_; clear hg_ hnew_; (first | rw [← Ny133.out] at ho4 | (simp only [Int.reduceToNat] at ho4; rw [← Ny133.out] at ho4)); have n0_ := Aside0.mk (Kd.R_lower ho4 (below_size hb_)); have n1_ := Aside0.mk (below_step hb_ hb); clear HB; have HO135 := n0_; have HB := n1_; clear n0_ n1_; clear hb ho4))
  go_loopg [5, 6] k (fun kq v5 v6 w' => ∃ (x5_1 : List Int) (x6_1 : Int), v6 = .int .i64 x6_1 ∧ Aside0 (spec_l1Schedule.l0 kq l0 a1 x5_1 x6_1 = some r) ∧ Aside0 (kq ≤ k) ∧ Aside0 (Kd.R (Kd.int .u32) 171 w' w.heap.size (fun _ => True) v5 x5_1) ∧ Aside0 (Below w.heap.size w w'))
  case atStart => exact ⟨(y133), (0), rs_, H', ⟨Nat.le_refl _⟩, ⟨by (with_reducible repeat (first | apply Kd.R_alloc | apply Kd.R_drewN | apply Kd.R_drew)); exact HO135.out⟩, ⟨by repeat (first | (with_reducible first | exact HB.out | apply below_alloc | apply pw_below_drewN | apply below_drew1) | exact HB.out)⟩⟩
  case round =>
    clear H'
    try clear c1
    try clear p2
    obtain ⟨x5_1, x6_1, rfl, HA, HK1, HO_5, HB⟩ := hrel
    cases gk with
    | zero => exact absurd HA.out (by simp [spec_l1Schedule.l0])
    | succ k1 =>
      have H := HA.out
      clear HA
      simp only [spec_l1Schedule.l0] at H
      by_cases c5 : x6_1 < 16
      · rw [if_pos c5] at H
        have c5b0 := decide_eq_true c5
        clear c5
        obtain ⟨ji6, hji6⟩ : ∃ j_ : Int, (wrap64 (a1 + (wrap64 (4 * x6_1)))) = j_ := ⟨_, rfl⟩
        replace H : (if 0 ≤ (ji6) then (if (ji6) < (l0.length : Int) then (if 0 ≤ (wrap64 ((ji6) + 1)) then (if (wrap64 ((ji6) + 1)) < (l0.length : Int) then (if 0 ≤ (wrap64 ((ji6) + 2)) then (if (wrap64 ((ji6) + 2)) < (l0.length : Int) then (if 0 ≤ (wrap64 ((ji6) + 3)) then (if (wrap64 ((ji6) + 3)) < (l0.length : Int) then (if x5_1.length < 35184372088832 then (spec_l1Schedule.l0 k1 l0 a1 (x5_1 ++ [Go.bits .or .u32 (Go.bits .or .u32 (Go.bits .or .u32 ((((rd l0 (ji6)) % 4294967296) * 16777216) % 4294967296) ((((rd l0 (wrap64 ((ji6) + 1))) % 4294967296) * 65536) % 4294967296)) ((((rd l0 (wrap64 ((ji6) + 2))) % 4294967296) * 256) % 4294967296)) ((rd l0 (wrap64 ((ji6) + 3))) % 4294967296)]) (wrap64 (x6_1 + 1))) else (none)) else (none)) else (none)) else (none)) else (none)) else (none)) else (none)) else (none)) else (none)) = some r := by first | (rw [hji6] at H; exact H) | (simp only [hji6] at H ⊢; exact H)
        have hji6w : (IntKind.i64.wrap (a1 + (wrap64 (4 * x6_1)))) = ji6 := (i64_w _).trans hji6
        by_cases c7 : 0 ≤ (ji6)
        rotate_left
        · rw [if_neg c7] at H
          exact absurd H (by simp)
        rw [if_pos c7] at H
        have c7b0 := decide_eq_true c7
        clear c7
        by_cases c8 : (ji6) < (l0.length : Int)
        rotate_left
        · rw [if_neg c8] at H
          exact absurd H (by simp)
        rw [if_pos c8] at H
        have c8b0 := decide_eq_true c8
        clear c8
        obtain ⟨ji9, hji9⟩ : ∃ j_ : Int, (wrap64 ((ji6) + 1)) = j_ := ⟨_, rfl⟩
        replace H : (if 0 ≤ (ji9) then (if (ji9) < (l0.length : Int) then (if 0 ≤ (wrap64 ((ji6) + 2)) then (if (wrap64 ((ji6) + 2)) < (l0.length : Int) then (if 0 ≤ (wrap64 ((ji6) + 3)) then (if (wrap64 ((ji6) + 3)) < (l0.length : Int) then (if x5_1.length < 35184372088832 then (spec_l1Schedule.l0 k1 l0 a1 (x5_1 ++ [Go.bits .or .u32 (Go.bits .or .u32 (Go.bits .or .u32 ((((rd l0 (ji6)) % 4294967296) * 16777216) % 4294967296) ((((rd l0 (ji9)) % 4294967296) * 65536) % 4294967296)) ((((rd l0 (wrap64 ((ji6) + 2))) % 4294967296) * 256) % 4294967296)) ((rd l0 (wrap64 ((ji6) + 3))) % 4294967296)]) (wrap64 (x6_1 + 1))) else (none)) else (none)) else (none)) else (none)) else (none)) else (none)) else (none)) = some r := by first | (rw [hji9] at H; exact H) | (simp only [hji9] at H ⊢; exact H)
        have hji9w : (IntKind.i64.wrap ((ji6) + 1)) = ji9 := (i64_w _).trans hji9
        by_cases c10 : 0 ≤ (ji9)
        rotate_left
        · rw [if_neg c10] at H
          exact absurd H (by simp)
        rw [if_pos c10] at H
        have c10b0 := decide_eq_true c10
        clear c10
        by_cases c11 : (ji9) < (l0.length : Int)
        rotate_left
        · rw [if_neg c11] at H
          exact absurd H (by simp)
        rw [if_pos c11] at H
        have c11b0 := decide_eq_true c11
        clear c11
        obtain ⟨ji12, hji12⟩ : ∃ j_ : Int, (wrap64 ((ji6) + 2)) = j_ := ⟨_, rfl⟩
        replace H : (if 0 ≤ (ji12) then (if (ji12) < (l0.length : Int) then (if 0 ≤ (wrap64 ((ji6) + 3)) then (if (wrap64 ((ji6) + 3)) < (l0.length : Int) then (if x5_1.length < 35184372088832 then (spec_l1Schedule.l0 k1 l0 a1 (x5_1 ++ [Go.bits .or .u32 (Go.bits .or .u32 (Go.bits .or .u32 ((((rd l0 (ji6)) % 4294967296) * 16777216) % 4294967296) ((((rd l0 (ji9)) % 4294967296) * 65536) % 4294967296)) ((((rd l0 (ji12)) % 4294967296) * 256) % 4294967296)) ((rd l0 (wrap64 ((ji6) + 3))) % 4294967296)]) (wrap64 (x6_1 + 1))) else (none)) else (none)) else (none)) else (none)) else (none)) = some r := by first | (rw [hji12] at H; exact H) | (simp only [hji12] at H ⊢; exact H)
        have hji12w : (IntKind.i64.wrap ((ji6) + 2)) = ji12 := (i64_w _).trans hji12
        by_cases c13 : 0 ≤ (ji12)
        rotate_left
        · rw [if_neg c13] at H
          exact absurd H (by simp)
        rw [if_pos c13] at H
        have c13b0 := decide_eq_true c13
        clear c13
        by_cases c14 : (ji12) < (l0.length : Int)
        rotate_left
        · rw [if_neg c14] at H
          exact absurd H (by simp)
        rw [if_pos c14] at H
        have c14b0 := decide_eq_true c14
        clear c14
        obtain ⟨ji15, hji15⟩ : ∃ j_ : Int, (wrap64 ((ji6) + 3)) = j_ := ⟨_, rfl⟩
        replace H : (if 0 ≤ (ji15) then (if (ji15) < (l0.length : Int) then (if x5_1.length < 35184372088832 then (spec_l1Schedule.l0 k1 l0 a1 (x5_1 ++ [Go.bits .or .u32 (Go.bits .or .u32 (Go.bits .or .u32 ((((rd l0 (ji6)) % 4294967296) * 16777216) % 4294967296) ((((rd l0 (ji9)) % 4294967296) * 65536) % 4294967296)) ((((rd l0 (ji12)) % 4294967296) * 256) % 4294967296)) ((rd l0 (ji15)) % 4294967296)]) (wrap64 (x6_1 + 1))) else (none)) else (none)) else (none)) = some r := by first | (rw [hji15] at H; exact H) | (simp only [hji15] at H ⊢; exact H)
        have hji15w : (IntKind.i64.wrap ((ji6) + 3)) = ji15 := (i64_w _).trans hji15
        by_cases c16 : 0 ≤ (ji15)
        rotate_left
        · rw [if_neg c16] at H
          exact absurd H (by simp)
        rw [if_pos c16] at H
        have c16b0 := decide_eq_true c16
        clear c16
        by_cases c17 : (ji15) < (l0.length : Int)
        rotate_left
        · rw [if_neg c17] at H
          exact absurd H (by simp)
        rw [if_pos c17] at H
        have c17b0 := decide_eq_true c17
        clear c17
        by_cases c18 : x5_1.length < 35184372088832
        rotate_left
        · rw [if_neg c18] at H
          exact absurd H (by simp)
        rw [if_pos c18] at H
        have LMc18 := Aside0.mk c18
        clear c18
        obtain ⟨y140, hy140⟩ : ∃ y_ : List Int, y_ = (x5_1 ++ [Go.bits .or .u32 (Go.bits .or .u32 (Go.bits .or .u32 ((((rd l0 (ji6)) % 4294967296) * 16777216) % 4294967296) ((((rd l0 (ji9)) % 4294967296) * 65536) % 4294967296)) ((((rd l0 (ji12)) % 4294967296) * 256) % 4294967296)) ((rd l0 (ji15)) % 4294967296)]) := ⟨_, rfl⟩
        replace H : (spec_l1Schedule.l0 k1 l0 a1 y140 (wrap64 (x6_1 + 1))) = some r := by first | (rw [hy140]; with_reducible exact H) | (have H2_ := (Option.bind_some _ _).symm.trans H; rw [hy140]; with_reducible exact H2_) | (have H2_ := (Option.bind_some _ _).symm.trans H; with_reducible exact H2_) | with_reducible exact H | (rw [hy140]; exact H) | exact H
        have Ny140 := Aside0.mk hy140
        clear hy140
        have H' := Aside0.mk H
        clear H
        try go_wp2
        have n0_ := Aside0.mk (Kd.R_drew HO_5.out)
        have n1_ := Aside0.mk (below_drew1 HB.out)
        clear HO_5
        clear HB
        have HO_5 := n0_
        have HB := n1_
        clear n0_ n1_
        have p136 : 0 ≤ ((ji6) : Int) := of_decide_eq_true as_
        have q136 : (ji6) < (l0.length : Int) := of_decide_eq_true as_
        obtain ⟨ad136, e136, hx136_0⟩ := Kd.at_int HR0.out (ji6) p136 q136
        have hw136_0 := hx136_0
        cases e136
        replace hx136_0 := (HB.out.cell (World.block_lt_of_cell? w _ hx136_0)).trans hx136_0
        replace p136 := eq_true p136
        replace q136 := eq_true q136
        have p137 : 0 ≤ ((ji9) : Int) := of_decide_eq_true as_
        have q137 : (ji9) < (l0.length : Int) := of_decide_eq_true as_
        obtain ⟨ad137, e137, hx137_0⟩ := Kd.at_int HR0.out (ji9) p137 q137
        have hw137_0 := hx137_0
        obtain rfl : ad136 = ad137 := (by injection e137)
        replace hx137_0 := (HB.out.cell (World.block_lt_of_cell? w _ hx137_0)).trans hx137_0
        replace p137 := eq_true p137
        replace q137 := eq_true q137
        have p138 : 0 ≤ ((ji12) : Int) := of_decide_eq_true as_
        have q138 : (ji12) < (l0.length : Int) := of_decide_eq_true as_
        obtain ⟨ad138, e138, hx138_0⟩ := Kd.at_int HR0.out (ji12) p138 q138
        have hw138_0 := hx138_0
        obtain rfl : ad136 = ad138 := (by injection e138)
        replace hx138_0 := (HB.out.cell (World.block_lt_of_cell? w _ hx138_0)).trans hx138_0
        replace p138 := eq_true p138
        replace q138 := eq_true q138
        have p139 : 0 ≤ ((ji15) : Int) := of_decide_eq_true as_
        have q139 : (ji15) < (l0.length : Int) := of_decide_eq_true as_
        obtain ⟨ad139, e139, hx139_0⟩ := Kd.at_int HR0.out (ji15) p139 q139
        have hw139_0 := hx139_0
        obtain rfl : ad136 = ad139 := (by injection e139)
        replace hx139_0 := (HB.out.cell (World.block_lt_of_cell? w _ hx139_0)).trans hx139_0
        replace p139 := eq_true p139
        replace q139 := eq_true q139
        refine ss_ 33 (S := fun w' => w'.cell? (ad136.add ((ji6)).toNat) = some (.int .u8 (rd l0 (ji6))) ∧ w'.cell? (ad136.add ((ji9)).toNat) = some (.int .u8 (rd l0 (ji9))) ∧ w'.cell? (ad136.add ((ji12)).toNat) = some (.int .u8 (rd l0 (ji12))) ∧ w'.cell? (ad136.add ((ji15)).toNat) = some (.int .u8 (rd l0 (ji15)))) (ds := []) ⟨((HB.out.cell (World.block_lt_of_cell? w _ hw136_0)).trans hw136_0), ((HB.out.cell (World.block_lt_of_cell? w _ hw137_0)).trans hw137_0), ((HB.out.cell (World.block_lt_of_cell? w _ hw138_0)).trans hw138_0), ((HB.out.cell (World.block_lt_of_cell? w _ hw139_0)).trans hw139_0)⟩ (fun hHeld => ?_); refine with_tabW spec_l1Schedule.tab6 spec_l1Schedule.bits6 (fun HT_ HW_ => ?_)
        generalize wr.drew = w19 at HO_5 HB hx136_0 hx137_0 hx138_0 hx139_0 hHeld ⊢
        refine sp_ 0 HT_ ?_
        refine sp_ 1 HT_ ?_
        refine sp_ 2 HT_ ?_
        refine sp_ 3 HT_ ?_
        refine sp_ 7 HT_ ?_
        refine sp_ 8 HT_ ?_
        refine sp_ 9 HT_ ?_
        refine sp_ 10 HT_ ?_
        refine sp_ 15 HT_ ?_
        refine sp_ 16 HT_ ?_
        refine sp_ 17 HT_ ?_
        refine sp_ 18 HT_ ?_
        refine sp_ 23 HT_ ?_
        refine sp_ 24 HT_ ?_
        refine sp_ 25 HT_ ?_
        refine sp_ 26 HT_ ?_
        refine st_ 4 HT_ HW_ hHeld ?_
        refine sp_ 5 HT_ ?_
        refine sp_ 6 HT_ ?_
        refine st_ 11 HT_ HW_ hHeld ?_
        refine sp_ 12 HT_ ?_
        refine sp_ 13 HT_ ?_
        refine sp_ 14 HT_ ?_
        refine st_ 19 HT_ HW_ hHeld ?_
        refine sp_ 20 HT_ ?_
        refine sp_ 21 HT_ ?_
        refine sp_ 22 HT_ ?_
        refine st_ 27 HT_ HW_ hHeld ?_
        refine sp_ 28 HT_ ?_
        refine sp_ 29 HT_ ?_
        refine so_ 30 HT_ (fun K hK => ?_)
        refine value_ (w1 := ?_) (v := ?_) (by rfl) rfl ?_ ?_
        rotate_left 2
        · go_simp
          constructor
          · rfl
          · rfl
        refine hK.out _ _ ⟨(World.cell?_alloc_lt _ _ _ (World.block_lt_of_cell? _ _ (((HB.out.cell (World.block_lt_of_cell? w _ hw136_0)).trans hw136_0)))).trans (((HB.out.cell (World.block_lt_of_cell? w _ hw136_0)).trans hw136_0)), (World.cell?_alloc_lt _ _ _ (World.block_lt_of_cell? _ _ (((HB.out.cell (World.block_lt_of_cell? w _ hw137_0)).trans hw137_0)))).trans (((HB.out.cell (World.block_lt_of_cell? w _ hw137_0)).trans hw137_0)), (World.cell?_alloc_lt _ _ _ (World.block_lt_of_cell? _ _ (((HB.out.cell (World.block_lt_of_cell? w _ hw138_0)).trans hw138_0)))).trans (((HB.out.cell (World.block_lt_of_cell? w _ hw138_0)).trans hw138_0)), (World.cell?_alloc_lt _ _ _ (World.block_lt_of_cell? _ _ (((HB.out.cell (World.block_lt_of_cell? w _ hw139_0)).trans hw139_0)))).trans (((HB.out.cell (World.block_lt_of_cell? w _ hw139_0)).trans hw139_0))⟩ (fun hHeld => ?_)
        clear hK K
        refine norm_ (a' := ?_) ?_ ?_
        rotate_left
        · show Act.put _ (some 52) _ = _
          simp only [Act.put, List.setIfInBounds_toArray, List.set_cons_zero, List.set_cons_succ, i64_w, i32_w]
          rfl
        refine so_ 31 HT_ (fun K hK => ?_)
        refine Kd.R_append_step (Kd.int .u32) (w0 := w) w.heap.size (by rfl) (.tmp 22) (.tmp 52) 172 171 (.int .u32 0) 4 rfl Tryz.underlying172 info171 rfl (by decide) (by omega) u5 x5_1 (Go.bits .or .u32 (Go.bits .or .u32 (Go.bits .or .u32 ((((rd l0 (ji6)) % 4294967296) * 16777216) % 4294967296) ((((rd l0 (ji9)) % 4294967296) * 65536) % 4294967296)) ((((rd l0 (ji12)) % 4294967296) * 256) % 4294967296)) ((rd l0 (ji15)) % 4294967296)) [.int .u32 (Go.bits .or .u32 (Go.bits .or .u32 (Go.bits .or .u32 ((((rd l0 (ji6)) % 4294967296) * 16777216) % 4294967296) ((((rd l0 (ji9)) % 4294967296) * 65536) % 4294967296)) ((((rd l0 (ji12)) % 4294967296) * 256) % 4294967296)) ((rd l0 (ji15)) % 4294967296))] (fun _ => True) (fun _ => False) rfl rfl ?aP (fun _ hk => hk.elim) ?aF ?aO ?aB ?aS ?aL ?_
        (case aP => exact rfl)
        (case aB => exact hb_)
        (case aF => exact (fun _ _ => trivial))
        (case aO => exact (kr_ HO_5.out))
        (case aS => exact (below_size hb_))
        (case aL => have := LMc18.out; omega)
        intro v141 w20 ho hb hg hat
        rw [← Ny140.out] at ho
        have n0_ := Aside0.mk (hb)
        have n1_ := Aside0.mk (ho)
        clear HB
        clear HO_5
        have HB := n0_
        have HO142 := n1_
        clear n0_ n1_
        clear ho hb hg hat
        refine hK.out _ _ ⟨((HB.out.cell (World.block_lt_of_cell? w _ hw136_0)).trans hw136_0), ((HB.out.cell (World.block_lt_of_cell? w _ hw137_0)).trans hw137_0), ((HB.out.cell (World.block_lt_of_cell? w _ hw138_0)).trans hw138_0), ((HB.out.cell (World.block_lt_of_cell? w _ hw139_0)).trans hw139_0)⟩ (fun hHeld => ?_)
        clear hK K
        refine norm_ (a' := ?_) ?_ ?_
        rotate_left
        · show Act.put _ (some 53) _ = _
          simp only [Act.put, List.setIfInBounds_toArray, List.set_cons_zero, List.set_cons_succ, i64_w, i32_w]
          rfl
        refine sp_ 32 HT_ ?_
        refine done_ (done_of HT_.out (by kernel_rfl)) ?_
        try go_wp2
        go_roundg k1
        case measure => have := HK1.out; omega
        case rel => exact ⟨(y140), (wrap64 (x6_1 + 1)), rs_, H', ⟨by have := HK1.out; omega⟩, ⟨by (with_reducible repeat (first | apply Kd.R_alloc | apply Kd.R_drewN | apply Kd.R_drew)); exact HO142.out⟩, ⟨by repeat (first | (with_reducible first | exact HB.out | apply below_alloc | apply pw_below_drewN | apply below_drew1) | exact HB.out)⟩⟩
      rw [if_neg c5] at H
      have c5b0 := decide_eq_false c5
      clear c5
      have H' := Aside0.mk H
      clear H
      go_wp2
      go_loopg [5, 8] k1 (fun kq v5 v8 w' => ∃ (x5_2 : List Int) (x8_2 : Int), v8 = .int .i64 x8_2 ∧ Aside0 (spec_l1Schedule.l1 kq x5_2 x8_2 = some r) ∧ Aside0 (kq ≤ k1) ∧ Aside0 (Kd.R (Kd.int .u32) 171 w' w.heap.size (fun _ => True) v5 x5_2) ∧ Aside0 (Below w.heap.size w w'))
      case atStart => exact ⟨(x5_1), (16), rs_, H', ⟨Nat.le_refl _⟩, ⟨by (with_reducible repeat (first | apply Kd.R_alloc | apply Kd.R_drewN | apply Kd.R_drew)); exact HO_5.out⟩, ⟨by repeat (first | (with_reducible first | exact HB.out | apply below_alloc | apply pw_below_drewN | apply below_drew1) | exact HB.out)⟩⟩
      case round =>
        clear H'
        try clear c1
        try clear p1
        try clear q1
        try clear hx1
        try clear p2
        try clear c5
        try clear c5b0
        try clear p6
        try clear c7
        try clear c7b0
        try clear c8
        try clear c8b0
        try clear c10
        try clear c10b0
        try clear c11
        try clear c11b0
        try clear c13
        try clear c13b0
        try clear p13
        try clear q13
        try clear hx13
        try clear c14
        try clear c14b0
        try clear c15
        try clear c16
        try clear c16b0
        try clear c17
        try clear c17b0
        try clear c18
        try clear hx136_0
        try clear hx137_0
        try clear hx138_0
        try clear hx139_0
        try clear p136
        try clear p137
        try clear p138
        try clear p139
        try clear p2
        try clear q136
        try clear q137
        try clear q138
        try clear q139
        obtain ⟨x5_2, x8_2, rfl, HA, HK2, HO_5, HB⟩ := hrel
        cases gk with
        | zero => exact absurd HA.out (by simp [spec_l1Schedule.l1])
        | succ k2 =>
          have H := HA.out
          clear HA
          simp only [spec_l1Schedule.l1] at H
          by_cases c21 : x8_2 < 64
          rotate_left
          · rw [if_neg c21] at H
            have c21b0 := decide_eq_false c21
            clear c21
            obtain rfl := Option.some.inj H
            go_wp2
            go_ret
            exact ⟨_, by first | rfl | (simp [errW_none, errW_some] <;> rfl) | (simp [*, errW_none, errW_some] <;> rfl), by (with_reducible repeat (first | apply Kd.R_alloc | apply Kd.R_drewN | apply Kd.R_drew)); exact HO_5.out, by repeat (first | (with_reducible first | exact HB.out | apply below_alloc | apply pw_below_drewN | apply below_drew1) | exact HB.out)⟩

          rw [if_pos c21] at H
          have c21b0 := decide_eq_true c21
          clear c21
          obtain ⟨ji22, hji22⟩ : ∃ j_ : Int, (wrap64 (x8_2 - 15)) = j_ := ⟨_, rfl⟩
          replace H : (if 0 ≤ (ji22) then (if (ji22) < (x5_2.length : Int) then (if 0 ≤ (wrap64 (x8_2 - 2)) then (if (wrap64 (x8_2 - 2)) < (x5_2.length : Int) then ((spec_l1Turn.f (rd x5_2 (ji22)) 7).bind fun t145 => ((spec_l1Turn.f (rd x5_2 (ji22)) 18).bind fun t146 => ((spec_l1Turn.f (rd x5_2 (wrap64 (x8_2 - 2))) 17).bind fun t147 => ((spec_l1Turn.f (rd x5_2 (wrap64 (x8_2 - 2))) 19).bind fun t148 => (if 0 ≤ (wrap64 (x8_2 - 16)) then (if (wrap64 (x8_2 - 16)) < (x5_2.length : Int) then (if 0 ≤ (wrap64 (x8_2 - 7)) then (if (wrap64 (x8_2 - 7)) < (x5_2.length : Int) then (if x5_2.length < 35184372088832 then (spec_l1Schedule.l1 k2 (x5_2 ++ [((((((rd x5_2 (wrap64 (x8_2 - 16))) + (Go.bits .xor .u32 (Go.bits .xor .u32 t145 t146) ((rd x5_2 (ji22)) / 8))) % 4294967296) + (rd x5_2 (wrap64 (x8_2 - 7)))) % 4294967296) + (Go.bits .xor .u32 (Go.bits .xor .u32 t147 t148) ((rd x5_2 (wrap64 (x8_2 - 2))) / 1024))) % 4294967296]) (wrap64 (x8_2 + 1))) else (none)) else (none)) else (none)) else (none)) else (none)))))) else (none)) else (none)) else (none)) else (none)) = some r := by first | (rw [hji22] at H; exact H) | (simp only [hji22] at H ⊢; exact H)
          have hji22w : (IntKind.i64.wrap (x8_2 - 15)) = ji22 := (i64_w _).trans hji22
          by_cases c23 : 0 ≤ (ji22)
          rotate_left
          · rw [if_neg c23] at H
            exact absurd H (by simp)
          rw [if_pos c23] at H
          have c23b0 := decide_eq_true c23
          clear c23
          by_cases c24 : (ji22) < (x5_2.length : Int)
          rotate_left
          · rw [if_neg c24] at H
            exact absurd H (by simp)
          rw [if_pos c24] at H
          have c24b0 := decide_eq_true c24
          clear c24
          obtain ⟨ji25, hji25⟩ : ∃ j_ : Int, (wrap64 (x8_2 - 2)) = j_ := ⟨_, rfl⟩
          replace H : (if 0 ≤ (ji25) then (if (ji25) < (x5_2.length : Int) then ((spec_l1Turn.f (rd x5_2 (ji22)) 7).bind fun t145 => ((spec_l1Turn.f (rd x5_2 (ji22)) 18).bind fun t146 => ((spec_l1Turn.f (rd x5_2 (ji25)) 17).bind fun t147 => ((spec_l1Turn.f (rd x5_2 (ji25)) 19).bind fun t148 => (if 0 ≤ (wrap64 (x8_2 - 16)) then (if (wrap64 (x8_2 - 16)) < (x5_2.length : Int) then (if 0 ≤ (wrap64 (x8_2 - 7)) then (if (wrap64 (x8_2 - 7)) < (x5_2.length : Int) then (if x5_2.length < 35184372088832 then (spec_l1Schedule.l1 k2 (x5_2 ++ [((((((rd x5_2 (wrap64 (x8_2 - 16))) + (Go.bits .xor .u32 (Go.bits .xor .u32 t145 t146) ((rd x5_2 (ji22)) / 8))) % 4294967296) + (rd x5_2 (wrap64 (x8_2 - 7)))) % 4294967296) + (Go.bits .xor .u32 (Go.bits .xor .u32 t147 t148) ((rd x5_2 (ji25)) / 1024))) % 4294967296]) (wrap64 (x8_2 + 1))) else (none)) else (none)) else (none)) else (none)) else (none)))))) else (none)) else (none)) = some r := by first | (rw [hji25] at H; exact H) | (simp only [hji25] at H ⊢; exact H)
          have hji25w : (IntKind.i64.wrap (x8_2 - 2)) = ji25 := (i64_w _).trans hji25
          by_cases c26 : 0 ≤ (ji25)
          rotate_left
          · rw [if_neg c26] at H
            exact absurd H (by simp)
          rw [if_pos c26] at H
          have c26b0 := decide_eq_true c26
          clear c26
          by_cases c27 : (ji25) < (x5_2.length : Int)
          rotate_left
          · rw [if_neg c27] at H
            exact absurd H (by simp)
          rw [if_pos c27] at H
          have c27b0 := decide_eq_true c27
          clear c27
          replace H := Option.bind_eq_some_iff.mp H
          obtain ⟨t145, A280, H⟩ := H
          try dsimp only at H
          have A28 := Aside0.mk A280
          clear A280
          replace H := Option.bind_eq_some_iff.mp H
          obtain ⟨t146, A290, H⟩ := H
          try dsimp only at H
          have A29 := Aside0.mk A290
          clear A290
          replace H := Option.bind_eq_some_iff.mp H
          obtain ⟨t147, A300, H⟩ := H
          try dsimp only at H
          have A30 := Aside0.mk A300
          clear A300
          replace H := Option.bind_eq_some_iff.mp H
          obtain ⟨t148, A310, H⟩ := H
          try dsimp only at H
          have A31 := Aside0.mk A310
          clear A310
          obtain ⟨ji32, hji32⟩ : ∃ j_ : Int, (wrap64 (x8_2 - 16)) = j_ := ⟨_, rfl⟩
          replace H : (if 0 ≤ (ji32) then (if (ji32) < (x5_2.length : Int) then (if 0 ≤ (wrap64 (x8_2 - 7)) then (if (wrap64 (x8_2 - 7)) < (x5_2.length : Int) then (if x5_2.length < 35184372088832 then (spec_l1Schedule.l1 k2 (x5_2 ++ [((((((rd x5_2 (ji32)) + (Go.bits .xor .u32 (Go.bits .xor .u32 t145 t146) ((rd x5_2 (ji22)) / 8))) % 4294967296) + (rd x5_2 (wrap64 (x8_2 - 7)))) % 4294967296) + (Go.bits .xor .u32 (Go.bits .xor .u32 t147 t148) ((rd x5_2 (ji25)) / 1024))) % 4294967296]) (wrap64 (x8_2 + 1))) else (none)) else (none)) else (none)) else (none)) else (none)) = some r := by first | (rw [hji32] at H; exact H) | (simp only [hji32] at H ⊢; exact H)
          (try rw [hji32] at A28)
          (try rw [hji32] at A29)
          (try rw [hji32] at A30)
          (try rw [hji32] at A31)
          have hji32w : (IntKind.i64.wrap (x8_2 - 16)) = ji32 := (i64_w _).trans hji32
          by_cases c33 : 0 ≤ (ji32)
          rotate_left
          · rw [if_neg c33] at H
            exact absurd H (by simp)
          rw [if_pos c33] at H
          have c33b0 := decide_eq_true c33
          clear c33
          by_cases c34 : (ji32) < (x5_2.length : Int)
          rotate_left
          · rw [if_neg c34] at H
            exact absurd H (by simp)
          rw [if_pos c34] at H
          have c34b0 := decide_eq_true c34
          clear c34
          obtain ⟨ji35, hji35⟩ : ∃ j_ : Int, (wrap64 (x8_2 - 7)) = j_ := ⟨_, rfl⟩
          replace H : (if 0 ≤ (ji35) then (if (ji35) < (x5_2.length : Int) then (if x5_2.length < 35184372088832 then (spec_l1Schedule.l1 k2 (x5_2 ++ [((((((rd x5_2 (ji32)) + (Go.bits .xor .u32 (Go.bits .xor .u32 t145 t146) ((rd x5_2 (ji22)) / 8))) % 4294967296) + (rd x5_2 (ji35))) % 4294967296) + (Go.bits .xor .u32 (Go.bits .xor .u32 t147 t148) ((rd x5_2 (ji25)) / 1024))) % 4294967296]) (wrap64 (x8_2 + 1))) else (none)) else (none)) else (none)) = some r := by first | (rw [hji35] at H; exact H) | (simp only [hji35] at H ⊢; exact H)
          (try rw [hji35] at A28)
          (try rw [hji35] at A29)
          (try rw [hji35] at A30)
          (try rw [hji35] at A31)
          have hji35w : (IntKind.i64.wrap (x8_2 - 7)) = ji35 := (i64_w _).trans hji35
          by_cases c36 : 0 ≤ (ji35)
          rotate_left
          · rw [if_neg c36] at H
            exact absurd H (by simp)
          rw [if_pos c36] at H
          have c36b0 := decide_eq_true c36
          clear c36
          by_cases c37 : (ji35) < (x5_2.length : Int)
          rotate_left
          · rw [if_neg c37] at H
            exact absurd H (by simp)
          rw [if_pos c37] at H
          have c37b0 := decide_eq_true c37
          clear c37
          by_cases c38 : x5_2.length < 35184372088832
          rotate_left
          · rw [if_neg c38] at H
            exact absurd H (by simp)
          rw [if_pos c38] at H
          have LMc38 := Aside0.mk c38
          clear c38
          obtain ⟨y151, hy151⟩ : ∃ y_ : List Int, y_ = (x5_2 ++ [((((((rd x5_2 (ji32)) + (Go.bits .xor .u32 (Go.bits .xor .u32 t145 t146) ((rd x5_2 (ji22)) / 8))) % 4294967296) + (rd x5_2 (ji35))) % 4294967296) + (Go.bits .xor .u32 (Go.bits .xor .u32 t147 t148) ((rd x5_2 (ji25)) / 1024))) % 4294967296]) := ⟨_, rfl⟩
          replace H : (spec_l1Schedule.l1 k2 y151 (wrap64 (x8_2 + 1))) = some r := by first | (rw [hy151]; with_reducible exact H) | (have H2_ := (Option.bind_some _ _).symm.trans H; rw [hy151]; with_reducible exact H2_) | (have H2_ := (Option.bind_some _ _).symm.trans H; with_reducible exact H2_) | with_reducible exact H | (rw [hy151]; exact H) | exact H
          have Ny151 := Aside0.mk hy151
          clear hy151
          have H' := Aside0.mk H
          clear H
          obtain ⟨Ao39, co39, eo39⟩ := Kd.R_slice HO_5.out
          subst eo39
          have p143 : 0 ≤ ((ji22) : Int) := of_decide_eq_true as_
          have q143 : (ji22) < (x5_2.length : Int) := of_decide_eq_true as_
          obtain ⟨ad143, e143, hx143_0⟩ := Kd.at_int (Kd.R_reads' HO_5.out).2.2 (ji22) p143 q143
          cases e143
          replace p143 := eq_true p143
          replace q143 := eq_true q143
          have p144 : 0 ≤ ((ji25) : Int) := of_decide_eq_true as_
          have q144 : (ji25) < (x5_2.length : Int) := of_decide_eq_true as_
          obtain ⟨ad144, e144, hx144_0⟩ := Kd.at_int (Kd.R_reads' HO_5.out).2.2 (ji25) p144 q144
          obtain rfl : ad143 = ad144 := (by injection e144)
          replace p144 := eq_true p144
          replace q144 := eq_true q144
          try go_wp2_with (first | ((with_reducible refine gate_callee (f := 155) rfl ?_); refine goesL_ (some 69) rfl rfl Tryz.func155 (by kernel_rfl) rfl #[.int .u32 (rd x5_2 (ji22)), .int .i64 7] rfl (by (try simp only [List.map_toArray, List.map_cons, List.map_nil]); first | done | (simp only [hji22]; rfl) | rfl | (simp only [List.length_drop, List.length_take]; rfl)) ?_; (with_reducible refine (spec_l1Turn.calls (rd x5_2 (ji22)) 7 t145 _ A28.out).mono ?_); rintro e w' ⟨rfl, ⟨nd, rfl⟩⟩; refine ⟨_, rfl, ?_⟩) | ((with_reducible refine gate_callee (f := 155) rfl ?_); refine goesL_ (some 71) rfl rfl Tryz.func155 (by kernel_rfl) rfl #[.int .u32 (rd x5_2 (ji22)), .int .i64 18] rfl (by (try simp only [List.map_toArray, List.map_cons, List.map_nil]); first | done | (simp only [hji22]; rfl) | rfl | (simp only [List.length_drop, List.length_take]; rfl)) ?_; (with_reducible refine (spec_l1Turn.calls (rd x5_2 (ji22)) 18 t146 _ A29.out).mono ?_); rintro e w' ⟨rfl, ⟨nd, rfl⟩⟩; refine ⟨_, rfl, ?_⟩) | ((with_reducible refine gate_callee (f := 155) rfl ?_); refine goesL_ (some 77) rfl rfl Tryz.func155 (by kernel_rfl) rfl #[.int .u32 (rd x5_2 (ji25)), .int .i64 17] rfl (by (try simp only [List.map_toArray, List.map_cons, List.map_nil]); first | done | (simp only [hji25]; rfl) | rfl | (simp only [List.length_drop, List.length_take]; rfl)) ?_; (with_reducible refine (spec_l1Turn.calls (rd x5_2 (ji25)) 17 t147 _ A30.out).mono ?_); rintro e w' ⟨rfl, ⟨nd, rfl⟩⟩; refine ⟨_, rfl, ?_⟩) | ((with_reducible refine gate_callee (f := 155) rfl ?_); refine goesL_ (some 79) rfl rfl Tryz.func155 (by kernel_rfl) rfl #[.int .u32 (rd x5_2 (ji25)), .int .i64 19] rfl (by (try simp only [List.map_toArray, List.map_cons, List.map_nil]); first | done | (simp only [hji25]; rfl) | rfl | (simp only [List.length_drop, List.length_take]; rfl)) ?_; (with_reducible refine (spec_l1Turn.calls (rd x5_2 (ji25)) 19 t148 _ A31.out).mono ?_); rintro e w' ⟨rfl, ⟨nd, rfl⟩⟩; refine ⟨_, rfl, ?_⟩))
          (try (repeat rw [World.drewN_drewN]))
          (try (rw [drewN_self wr]; generalize hq_ : World.drewN wr _ = wr; have n0_ : Aside0 (Kd.R (Kd.int .u32) 171 wr w.heap.size (fun _ => True) (.slice (some ad143) x5_2.length co39) x5_2) := ⟨by rw [← hq_]; exact (kr_ HO_5.out)⟩; have n1_ : Aside0 (Below w.heap.size w wr) := ⟨by rw [← hq_]; exact hb_⟩; clear HO_5 HB hq_; have HO_5 := n0_; have HB := n1_; clear n0_ n1_))
          have n0_ := Aside0.mk (Kd.R_drew HO_5.out)
          have n1_ := Aside0.mk (below_drew1 HB.out)
          clear HO_5
          clear HB
          have HO_5 := n0_
          have HB := n1_
          clear n0_ n1_
          have p149 : 0 ≤ ((ji32) : Int) := of_decide_eq_true as_
          have q149 : (ji32) < (x5_2.length : Int) := of_decide_eq_true as_
          obtain ⟨ad149, e149, hx149_0⟩ := Kd.at_int (Kd.R_reads' HO_5.out).2.2 (ji32) p149 q149
          obtain rfl : ad143 = ad149 := (by injection e149)
          replace p149 := eq_true p149
          replace q149 := eq_true q149
          have p150 : 0 ≤ ((ji35) : Int) := of_decide_eq_true as_
          have q150 : (ji35) < (x5_2.length : Int) := of_decide_eq_true as_
          obtain ⟨ad150, e150, hx150_0⟩ := Kd.at_int (Kd.R_reads' HO_5.out).2.2 (ji35) p150 q150
          obtain rfl : ad143 = ad150 := (by injection e150)
          replace p150 := eq_true p150
          replace q150 := eq_true q150
          refine ss_ 19 (S := fun w' => w'.cell? (ad143.add ((ji32)).toNat) = some (.int .u32 (rd x5_2 (ji32))) ∧ w'.cell? (ad143.add ((ji35)).toNat) = some (.int .u32 (rd x5_2 (ji35)))) (ds := [16, 17]) ⟨hx149_0, hx150_0⟩ (fun hHeld => ?_); refine with_tabW spec_l1Schedule.tab14 spec_l1Schedule.bits14 (fun HT_ HW_ => ?_)
          generalize wr.drew = w40 at HO_5 HB hx149_0 hx150_0 hHeld ⊢
          refine sp_ 0 HT_ ?_
          refine sp_ 1 HT_ ?_
          refine sp_ 2 HT_ ?_
          refine sp_ 3 HT_ ?_
          refine sp_ 4 HT_ ?_
          refine sp_ 6 HT_ ?_
          refine sp_ 8 HT_ ?_
          refine sp_ 9 HT_ ?_
          refine sp_ 10 HT_ ?_
          refine sp_ 11 HT_ ?_
          refine sp_ 14 HT_ ?_
          refine st_ 5 HT_ HW_ hHeld ?_
          refine sp_ 7 HT_ ?_
          refine st_ 12 HT_ HW_ hHeld ?_
          refine sp_ 13 HT_ ?_
          refine sp_ 15 HT_ ?_
          refine last_ (i := 16) (N := some 100) #[true, true, true, true, true, true, true, true, true, true, true, true, true, true, true, true, true, false, false] rfl rfl (one_of HT_.out (by kernel_rfl)) (by decide) (fun K hK => ?_)
          refine value_ (w1 := ?_) (v := ?_) (by rfl) rfl ?_ ?_
          rotate_left 2
          · go_simp
            constructor
            · rfl
            · rfl
          refine hK.out _ _ ?_
          clear hK K
          refine norm_ (a' := ?_) ?_ ?_
          rotate_left
          · show Act.put _ (some 100) _ = _
            simp only [Act.put, List.setIfInBounds_toArray, List.set_cons_zero, List.set_cons_succ, i64_w, i32_w]
            rfl
          refine last_ (i := 17) (N := some 101) #[true, true, true, true, true, true, true, true, true, true, true, true, true, true, true, true, true, true, false] rfl rfl (one_of HT_.out (by kernel_rfl)) (by decide) (fun K hK => ?_)
          refine Kd.R_append_step (Kd.int .u32) (w0 := w) w.heap.size (by rfl) (.tmp 84) (.tmp 100) 172 171 (.int .u32 0) 4 rfl Tryz.underlying172 info171 rfl (by decide) (by omega) (.slice (some ad143) x5_2.length co39) x5_2 (((((((rd x5_2 (ji32)) + (Go.bits .xor .u32 (Go.bits .xor .u32 t145 t146) ((rd x5_2 (ji22)) / 8))) % 4294967296) + (rd x5_2 (ji35))) % 4294967296) + (Go.bits .xor .u32 (Go.bits .xor .u32 t147 t148) ((rd x5_2 (ji25)) / 1024))) % 4294967296) [.int .u32 (((((((rd x5_2 (ji32)) + (Go.bits .xor .u32 (Go.bits .xor .u32 t145 t146) ((rd x5_2 (ji22)) / 8))) % 4294967296) + (rd x5_2 (ji35))) % 4294967296) + (Go.bits .xor .u32 (Go.bits .xor .u32 t147 t148) ((rd x5_2 (ji25)) / 1024))) % 4294967296)] (fun _ => True) (fun _ => False) rfl rfl ?aP (fun _ hk => hk.elim) ?aF ?aO ?aB ?aS ?aL ?_
          (case aP => exact rfl)
          (case aB => exact hb_)
          (case aF => exact (fun _ _ => trivial))
          (case aO => exact (kr_ HO_5.out))
          (case aS => exact (below_size hb_))
          (case aL => have := LMc38.out; omega)
          intro v152 w41 ho hb hg hat
          rw [← Ny151.out] at ho
          have n0_ := Aside0.mk (hb)
          have n1_ := Aside0.mk (ho)
          clear HB
          clear HO_5
          have HB := n0_
          have HO153 := n1_
          clear n0_ n1_
          clear ho hb hg hat
          refine hK.out _ _ ?_
          clear hK K
          refine norm_ (a' := ?_) ?_ ?_
          rotate_left
          · show Act.put _ (some 101) _ = _
            simp only [Act.put, List.setIfInBounds_toArray, List.set_cons_zero, List.set_cons_succ, i64_w, i32_w]
            rfl
          refine sp_ 18 HT_ ?_
          refine done_ (done_of HT_.out (by kernel_rfl)) ?_
          try go_wp2
          go_roundg k2
          case measure => have := HK1.out; have := HK2.out; omega
          case rel => exact ⟨(y151), (wrap64 (x8_2 + 1)), rs_, H', ⟨by have := HK1.out; have := HK2.out; omega⟩, ⟨by (with_reducible repeat (first | apply Kd.R_alloc | apply Kd.R_drewN | apply Kd.R_drew)); exact HO153.out⟩, ⟨by repeat (first | (with_reducible first | exact HB.out | apply below_alloc | apply pw_below_drewN | apply below_drew1) | exact HB.out)⟩⟩
end Go.Proofs.YtgdcafbdkidamaaGreatDoor.B
end
section
namespace Go.Proofs.YtgdcafbdkidamaaGreatDoor.Sx
open Go.RowKit Go.Proofs.YtgdcafbdkidamaaGreatDoor.B Go.Proofs.YtgdcafbdkidamaaGreatDoor.H0 Go.Proofs.YtgdcafbdkidamaaGreatDoorW.PrintWords Go.Proofs.YtgdcafbdkidamaaGreatDoorW.PrintLast Go.Proofs.YtgdcafbdkidamaaGreatDoorW.PrintMore
set_option linter.unusedVariables false
set_option linter.unusedSimpArgs false
theorem w64 {n : Int} (h0 : -9223372036854775808 ≤ n) (h : n < 9223372036854775808) : wrap64 n = n := by unfold wrap64; omega
/-- four bytes as a word -/
def wd4 (m : List Int) (p : Int) : Int :=
  Go.bits .or .u32 (Go.bits .or .u32 (Go.bits .or .u32 (((rd m p % 4294967296) * 16777216) % 4294967296) (((rd m (p + 1) % 4294967296) * 65536) % 4294967296)) (((rd m (p + 2) % 4294967296) * 256) % 4294967296)) (rd m (p + 3) % 4294967296)
def w16 (m : List Int) (p : Int) : Nat → List Int
  | 0 => []
  | n + 1 => w16 m p n ++ [wd4 m (p + 4 * n)]
theorem w16_len (m : List Int) (p : Int) : ∀ n, (w16 m p n).length = n
  | 0 => rfl
  | n + 1 => by rw [w16, List.length_append, w16_len m p n]; rfl
/-- the next word -/
def nx (w : List Int) (i : Int) : Int :=
  (((rd w (i - 16) + Go.bits .xor .u32 (Go.bits .xor .u32 (tn (rd w (i - 15)) 7) (tn (rd w (i - 15)) 18)) (rd w (i - 15) / 8)) % 4294967296 + rd w (i - 7)) % 4294967296 + Go.bits .xor .u32 (Go.bits .xor .u32 (tn (rd w (i - 2)) 17) (tn (rd w (i - 2)) 19)) (rd w (i - 2) / 1024)) % 4294967296
def wext (w : List Int) : Nat → List Int
  | 0 => w
  | n + 1 => wext w n ++ [nx (wext w n) (16 + n)]
theorem wext_len (w : List Int) : ∀ n, (wext w n).length = w.length + n
  | 0 => rfl
  | n + 1 => by rw [wext, List.length_append, wext_len w n]; rfl
def sched (m : List Int) (p : Int) : List Int := wext (w16 m p 16) 48
theorem sched_len (m : List Int) (p : Int) : (sched m p).length = 64 := by rw [sched, wext_len, w16_len]

theorem sched_l1 (w : List Int) (hw : w.length = 16) : ∀ (d n k : Nat), n + d = 48 → d < k → spec_l1Schedule.l1 k (wext w n) (16 + n) = some (wext w 48)
  | 0, n, k, hn, hk => by
    obtain ⟨k, rfl⟩ : ∃ j, k = j + 1 := ⟨k - 1, by omega⟩
    obtain rfl : n = 48 := by omega
    rw [spec_l1Schedule.l1, if_neg (by decide)]
  | d + 1, n, k, hn, hk => by
    obtain ⟨k, rfl⟩ : ∃ j, k = j + 1 := ⟨k - 1, by omega⟩
    have hl : ((wext w n).length : Int) = 16 + n := by rw [wext_len, hw]; omega
    rw [spec_l1Schedule.l1, if_pos (by omega)]
    rw [w64 (n := 16 + (n : Int) - 15) (by omega) (by omega), w64 (n := 16 + (n : Int) - 2) (by omega) (by omega), w64 (n := 16 + (n : Int) - 16) (by omega) (by omega), w64 (n := 16 + (n : Int) - 7) (by omega) (by omega), w64 (n := 16 + (n : Int) + 1) (by omega) (by omega)]
    rw [if_pos (by omega), if_pos (by omega), if_pos (by omega), if_pos (by omega)]
    rw [turn_tn _ 7 (by decide) (by decide), Option.bind_some, turn_tn _ 18 (by decide) (by decide), Option.bind_some, turn_tn _ 17 (by decide) (by decide), Option.bind_some, turn_tn _ 19 (by decide) (by decide), Option.bind_some]
    rw [if_pos (by omega), if_pos (by omega), if_pos (by omega), if_pos (by omega), if_pos (by omega)]
    have ih := sched_l1 w hw d (n + 1) k (by omega) (by omega)
    rw [wext, show (16 : Int) + ((n + 1 : Nat) : Int) = 16 + (n : Int) + 1 by omega] at ih
    exact ih

theorem sched_l0 (m : List Int) (p : Int) (hp : 0 ≤ p) (hm : p + 64 ≤ m.length) (hx : m.length ≤ 1000000000000) : ∀ (d n k : Nat), n + d = 16 → d + 60 < k → spec_l1Schedule.l0 k m p (w16 m p n) n = some (sched m p)
  | 0, n, k, hn, hk => by
    obtain ⟨k, rfl⟩ : ∃ j, k = j + 1 := ⟨k - 1, by omega⟩
    obtain rfl : n = 16 := by omega
    rw [spec_l1Schedule.l0, if_neg (by decide)]
    exact sched_l1 (w16 m p 16) (w16_len m p 16) 48 0 k (by omega) (by omega)
  | d + 1, n, k, hn, hk => by
    obtain ⟨k, rfl⟩ : ∃ j, k = j + 1 := ⟨k - 1, by omega⟩
    have hl : (w16 m p n).length = n := w16_len m p n
    rw [spec_l1Schedule.l0, if_pos (by omega)]
    rw [w64 (n := 4 * (n : Int)) (by omega) (by omega), w64 (n := p + 4 * (n : Int)) (by omega) (by omega), w64 (n := p + 4 * (n : Int) + 1) (by omega) (by omega), w64 (n := p + 4 * (n : Int) + 2) (by omega) (by omega), w64 (n := p + 4 * (n : Int) + 3) (by omega) (by omega), w64 (n := (n : Int) + 1) (by omega) (by omega)]
    rw [if_pos (by omega), if_pos (by omega), if_pos (by omega), if_pos (by omega), if_pos (by omega), if_pos (by omega), if_pos (by omega), if_pos (by omega), if_pos (by omega)]
    have ih := sched_l0 m p hp hm hx d (n + 1) k (by omega) (by omega)
    rw [w16, show ((n + 1 : Nat) : Int) = (n : Int) + 1 by omega] at ih
    exact ih

theorem sched_spec (m : List Int) (p : Int) (hp : 0 ≤ p) (hm : p + 64 ≤ m.length) (hx : m.length ≤ 1000000000000) {k : Nat} (hk : 80 ≤ k) : spec_l1Schedule.f k m p = some (sched m p) :=
  sched_l0 m p hp hm hx 16 0 k (by omega) (by omega)
end Go.Proofs.YtgdcafbdkidamaaGreatDoor.Sx
end
section
namespace Go.Proofs.YtgdcafbdkidamaaGreatDoor.B
open Go.Proofs.YtgdcafbdkidamaaGreatDoor.Sq Go.RowKit Go.Proofs.YtgdcafbdkidamaaGreatDoor.H0 Go.Proofs.YtgdcafbdkidamaaGreatDoor.F0 Go.Proofs.YtgdcafbdkidamaaGreatDoorW.PrintWords Go.Proofs.YtgdcafbdkidamaaGreatDoorW.PrintLast Go.Proofs.YtgdcafbdkidamaaGreatDoorW.PrintMore
attribute [local go_sem high] field_num_fieldP   -- for this text's walks alone
attribute [local go_sem] max2_int min2_int max_two min_two max_three min_three max_four min_four   -- for this text's walks alone
set_option linter.unusedVariables false
set_option linter.unusedSimpArgs false
def spec_l1Block.l0 : Nat → List Int → List Int → List Int → Int → Int → Int → Int → Int → Int → Int → Int → Int → Option (List Int)
  | 0, _, _, _, _, _, _, _, _, _, _, _, _ => none
  | k + 1, x0, x1, x9, x10, x11, x12, x13, x14, x15, x16, x17, x18 => if x18 < 64 then ((spec_l1Turn.f x14 6).bind fun t176 => ((spec_l1Turn.f x14 11).bind fun t177 => ((spec_l1Turn.f x14 25).bind fun t178 => (if 0 ≤ x18 then (if x18 < (x1.length : Int) then (if x18 < (x9.length : Int) then ((spec_l1Turn.f x10 2).bind fun t181 => ((spec_l1Turn.f x10 13).bind fun t182 => ((spec_l1Turn.f x10 22).bind fun t183 => (spec_l1Block.l0 k x0 x1 x9 ((((((((((x17 + (Go.bits .xor .u32 (Go.bits .xor .u32 t176 t177) t178)) % 4294967296) + (Go.bits .xor .u32 (Go.bits .and .u32 x14 x15) (Go.bits .and .u32 (Go.bits .xor .u32 IntKind.u32.max x14) x16))) % 4294967296) + (rd x1 x18)) % 4294967296) + (rd x9 x18)) % 4294967296) + (((Go.bits .xor .u32 (Go.bits .xor .u32 t181 t182) t183) + (Go.bits .xor .u32 (Go.bits .xor .u32 (Go.bits .and .u32 x10 x11) (Go.bits .and .u32 x10 x12)) (Go.bits .and .u32 x11 x12))) % 4294967296)) % 4294967296) x10 x11 x12 ((x13 + ((((((((x17 + (Go.bits .xor .u32 (Go.bits .xor .u32 t176 t177) t178)) % 4294967296) + (Go.bits .xor .u32 (Go.bits .and .u32 x14 x15) (Go.bits .and .u32 (Go.bits .xor .u32 IntKind.u32.max x14) x16))) % 4294967296) + (rd x1 x18)) % 4294967296) + (rd x9 x18)) % 4294967296)) % 4294967296) x14 x15 x16 (wrap64 (x18 + 1)))))) else (none)) else (none)) else (none))))) else (if 0 < (x0.length : Int) then (if 1 < (x0.length : Int) then (if 2 < (x0.length : Int) then (if 3 < (x0.length : Int) then (if 4 < (x0.length : Int) then (if 5 < (x0.length : Int) then (if 6 < (x0.length : Int) then (if 7 < (x0.length : Int) then (some (([((rd x0 0) + x10) % 4294967296, ((rd x0 1) + x11) % 4294967296, ((rd x0 2) + x12) % 4294967296, ((rd x0 3) + x13) % 4294967296, ((rd x0 4) + x14) % 4294967296, ((rd x0 5) + x15) % 4294967296, ((rd x0 6) + x16) % 4294967296, ((rd x0 7) + x17) % 4294967296] : List Int))) else (none)) else (none)) else (none)) else (none)) else (none)) else (none)) else (none)) else (none))
def spec_l1Block.f (k : Nat) (l0 : List Int) (l1 : List Int) (l2 : List Int) (a3 : Int) : Option (List Int) := (spec_l1Schedule.f k l2 a3).bind fun t154 => (if 0 < (l0.length : Int) then (if 1 < (l0.length : Int) then (if 2 < (l0.length : Int) then (if 3 < (l0.length : Int) then (if 4 < (l0.length : Int) then (if 5 < (l0.length : Int) then (if 6 < (l0.length : Int) then (if 7 < (l0.length : Int) then (spec_l1Block.l0 k l0 l1 t154 (rd l0 0) (rd l0 1) (rd l0 2) (rd l0 3) (rd l0 4) (rd l0 5) (rd l0 6) (rd l0 7) 0) else (none)) else (none)) else (none)) else (none)) else (none)) else (none)) else (none)) else (none))
def spec_l1Block.T14 : Bool × List (List Nat × List Nat) := (true, [([], []), ([], []), ([0, 1], [0, 1]), ([], []), ([], []), ([3, 4], [3, 4]), ([], []), ([6], [6]), ([], []), ([7, 8], [7, 8]), ([5, 9], [5, 9]), ([2, 10], [2, 10]), ([], []), ([], []), ([12, 13], [12, 13]), ([14], [14]), ([11, 15], [11, 15]), ([], []), ([], []), ([17, 18], [17, 18]), ([19], [19]), ([16, 20], [16, 20]), ([21, 0, 1, 2, 3, 4, 5, 6, 7, 8, 9, 10, 11, 12, 13, 14, 15, 16, 17, 18, 19, 20, 21], [21])])
def spec_l1Block.B14 : List Nat := [0, 0, 3, 0, 0, 24, 0, 64, 0, 448, 1016, 2047, 0, 0, 12288, 28672, 65535, 0, 0, 393216, 917504, 2097151, 4194303]
theorem spec_l1Block.tab14 : rtab .any (opsOf Tryz.f135 14) = spec_l1Block.T14 := by kernel_rfl
theorem spec_l1Block.bits14 : waitsOk spec_l1Block.T14.2 spec_l1Block.B14 = true := by kernel_rfl
def spec_l1Block.T25 : Bool × List (List Nat × List Nat) := (true, [([], []), ([0], [0]), ([1], [1]), ([], []), ([2, 3], [2, 3]), ([], []), ([5], [5]), ([6], [6]), ([], []), ([7, 8], [7, 8]), ([], []), ([10], [10]), ([11], [11]), ([], []), ([12, 13], [12, 13]), ([], []), ([15], [15]), ([16], [16]), ([], []), ([17, 18], [17, 18]), ([], []), ([20], [20]), ([21], [21]), ([], []), ([22, 23], [22, 23]), ([], []), ([25], [25]), ([26], [26]), ([], []), ([27, 28], [27, 28]), ([], []), ([30], [30]), ([31], [31]), ([], []), ([32, 33], [32, 33]), ([], []), ([35], [35]), ([36], [36]), ([], []), ([37, 38], [37, 38]), ([4, 9, 14, 19, 24, 29, 34, 39], [4, 9, 14, 19, 24, 29, 34, 39]), ([40, 0, 1, 2, 3, 4, 5, 6, 7, 8, 9, 10, 11, 12, 13, 14, 15, 16, 17, 18, 19, 20, 21, 22, 23, 24, 25, 26, 27, 28, 29, 30, 31, 32, 33, 34, 35, 36, 37, 38, 39, 40], [40])])
def spec_l1Block.B25 : List Nat := [0, 1, 3, 0, 15, 0, 32, 96, 0, 480, 0, 1024, 3072, 0, 15360, 0, 32768, 98304, 0, 491520, 0, 1048576, 3145728, 0, 15728640, 0, 33554432, 100663296, 0, 503316480, 0, 1073741824, 3221225472, 0, 16106127360, 0, 34359738368, 103079215104, 0, 515396075520, 1099511627775, 2199023255551]
theorem spec_l1Block.tab25 : rtab .any (opsOf Tryz.f135 25) = spec_l1Block.T25 := by kernel_rfl
theorem spec_l1Block.bits25 : waitsOk spec_l1Block.T25.2 spec_l1Block.B25 = true := by kernel_rfl
set_option maxHeartbeats 8000000 in
set_option maxRecDepth 100000 in
theorem spec_l1Block.calls (k : Nat) (A0 : Option Addr) (c0 : Nat) (l0 : List Int) (A1 : Option Addr) (c1 : Nat) (l1 : List Int) (A2 : Option Addr) (c2 : Nat) (l2 : List Int) (a3 : Int) (r : List Int) (w : World) (hr0 : Kd.C (Kd.int .u32) w A0 l0.length l0) (hc0 : l0.length ≤ c0) (hr1 : Kd.C (Kd.int .u32) w A1 l1.length l1) (hc1 : l1.length ≤ c1) (hr2 : Kd.C (Kd.int .u8) w A2 l2.length l2) (hc2 : l2.length ≤ c2) (h : spec_l1Block.f k l0 l1 l2 a3 = some r) :
    Calls Tryz.prog 135 #[.slice A0 l0.length c0, .slice A1 l1.length c1, .slice A2 l2.length c2, .int .i64 a3] w fun e w' => ∃ v0_ : Value, e = .returned (v0_) ∧ Kd.R (Kd.int .u32) 171 w' w.heap.size (fun _ => True) v0_ r ∧ Below w.heap.size w w' := by
  have HR0 := Aside0.mk hr0
  have HC0 := Aside0.mk hc0
  clear hr0 hc0
  have HR1 := Aside0.mk hr1
  have HC1 := Aside0.mk hc1
  clear hr1 hc1
  have HR2 := Aside0.mk hr2
  have HC2 := Aside0.mk hc2
  clear hr2 hc2
  have HB := Aside0.mk (Below.refl w.heap.size w)
  have H : ((spec_l1Schedule.f k l2 a3).bind fun t154 => (if 0 < (l0.length : Int) then (if 1 < (l0.length : Int) then (if 2 < (l0.length : Int) then (if 3 < (l0.length : Int) then (if 4 < (l0.length : Int) then (if 5 < (l0.length : Int) then (if 6 < (l0.length : Int) then (if 7 < (l0.length : Int) then (spec_l1Block.l0 k l0 l1 t154 (rd l0 0) (rd l0 1) (rd l0 2) (rd l0 3) (rd l0 4) (rd l0 5) (rd l0 6) (rd l0 7) 0) else (none)) else (none)) else (none)) else (none)) else (none)) else (none)) else (none)) else (none))) = some r := h
  clear h
  replace H := Option.bind_eq_some_iff.mp H
  obtain ⟨t154, A50, H⟩ := H
  try dsimp only at H
  have A5 := Aside0.mk A50
  clear A50
  by_cases c6 : 0 < (l0.length : Int)
  rotate_left
  · rw [if_neg c6] at H
    exact absurd H (by simp)

  rw [if_pos c6] at H
  have c6b0 := decide_eq_true c6
  have c6b1 : decide (0 < l0.length) = true := decide_eq_true (by omega)
  clear c6
  by_cases c7 : 1 < (l0.length : Int)
  rotate_left
  · rw [if_neg c7] at H
    exact absurd H (by simp)
  rw [if_pos c7] at H
  have c7b0 := decide_eq_true c7
  have c7b1 : decide (1 < l0.length) = true := decide_eq_true (by omega)
  clear c7
  by_cases c8 : 2 < (l0.length : Int)
  rotate_left
  · rw [if_neg c8] at H
    exact absurd H (by simp)
  rw [if_pos c8] at H
  have c8b0 := decide_eq_true c8
  have c8b1 : decide (2 < l0.length) = true := decide_eq_true (by omega)
  clear c8
  by_cases c9 : 3 < (l0.length : Int)
  rotate_left
  · rw [if_neg c9] at H
    exact absurd H (by simp)
  rw [if_pos c9] at H
  have c9b0 := decide_eq_true c9
  have c9b1 : decide (3 < l0.length) = true := decide_eq_true (by omega)
  clear c9
  by_cases c10 : 4 < (l0.length : Int)
  rotate_left
  · rw [if_neg c10] at H
    exact absurd H (by simp)
  rw [if_pos c10] at H
  have c10b0 := decide_eq_true c10
  have c10b1 : decide (4 < l0.length) = true := decide_eq_true (by omega)
  clear c10
  by_cases c11 : 5 < (l0.length : Int)
  rotate_left
  · rw [if_neg c11] at H
    exact absurd H (by simp)
  rw [if_pos c11] at H
  have c11b0 := decide_eq_true c11
  have c11b1 : decide (5 < l0.length) = true := decide_eq_true (by omega)
  clear c11
  by_cases c12 : 6 < (l0.length : Int)
  rotate_left
  · rw [if_neg c12] at H
    exact absurd H (by simp)
  rw [if_pos c12] at H
  have c12b0 := decide_eq_true c12
  have c12b1 : decide (6 < l0.length) = true := decide_eq_true (by omega)
  clear c12
  by_cases c13 : 7 < (l0.length : Int)
  rotate_left
  · rw [if_neg c13] at H
    exact absurd H (by simp)
  rw [if_pos c13] at H
  have c13b0 := decide_eq_true c13
  have c13b1 : decide (7 < l0.length) = true := decide_eq_true (by omega)
  clear c13
  have H' := Aside0.mk H
  clear H
  go_enter Tryz.func135, Tryz.ntmps135
  go_wp2_with (first | ((with_reducible refine gate_callee (f := 154) rfl ?_); refine goesL_ (some 25) rfl rfl Tryz.func154 (by kernel_rfl) rfl #[.slice A2 l2.length c2, .int .i64 a3] rfl ga_ ?_; (with_reducible refine (spec_l1Schedule.calls k _ _ l2 a3 t154 _ ?side1 ?side2 A5.out).mono ?_); (case side1 => repeat (first | exact HR2.out | (with_reducible refine Kd.C_alloc ?_ _) | (with_reducible refine Kd.C_drewN ?_ _) | (with_reducible refine Kd.C_drew ?_))); (case side2 => exact HC2.out); rintro e w14 ⟨v155, rfl, ho0, hb⟩; refine ⟨_, rfl, ?_⟩; have n0_ := Aside0.mk (Kd.R_lower ho0 (below_size hb_)); have n1_ := Aside0.mk (below_step hb_ hb); clear HB; have HO156 := n0_; have HB := n1_; clear n0_ n1_; (try clear hb); (try clear hb2); (try clear hk); (try clear hi); (try clear ho0); have p157 : 0 ≤ (0 : Int) := (by omega); have q157 : 0 < (l0.length : Int) := of_decide_eq_true as_; obtain ⟨ad157, e157, hx157_0⟩ := Kd.at_int HR0.out 0 p157 q157; cases e157; have qi157 : (0 < l0.length) = True := eq_true (by omega); (try rw [show ((0 : Int)).toNat = 0 from rfl] at hx157_0); (try rw [Addr.add_zero'] at hx157_0); replace hx157_0 := (HB.out.cell (World.block_lt_of_cell? w _ hx157_0)).trans hx157_0; replace p157 := eq_true p157; replace q157 := eq_true q157; have p158 : 0 ≤ (1 : Int) := (by omega); have q158 : 1 < (l0.length : Int) := of_decide_eq_true as_; obtain ⟨ad158, e158, hx158_0⟩ := Kd.at_int HR0.out 1 p158 q158; obtain rfl : ad157 = ad158 := (by injection e158); (try simp only [show (1 : Int).toNat = 1 from rfl, Nat.reduceMul, Nat.reduceEqDiff, Go.Addr.add, ↓reduceIte] at hx158_0); have qi158 : (1 < l0.length) = True := eq_true (by omega); (try rw [show ((1 : Int)).toNat = 1 from rfl] at hx158_0); replace hx158_0 := (HB.out.cell (World.block_lt_of_cell? w _ hx158_0)).trans hx158_0; replace p158 := eq_true p158; replace q158 := eq_true q158; have p159 : 0 ≤ (2 : Int) := (by omega); have q159 : 2 < (l0.length : Int) := of_decide_eq_true as_; obtain ⟨ad159, e159, hx159_0⟩ := Kd.at_int HR0.out 2 p159 q159; obtain rfl : ad157 = ad159 := (by injection e159); (try simp only [show (2 : Int).toNat = 2 from rfl, Nat.reduceMul, Nat.reduceEqDiff, Go.Addr.add, ↓reduceIte] at hx159_0); have qi159 : (2 < l0.length) = True := eq_true (by omega); (try rw [show ((2 : Int)).toNat = 2 from rfl] at hx159_0); replace hx159_0 := (HB.out.cell (World.block_lt_of_cell? w _ hx159_0)).trans hx159_0; replace p159 := eq_true p159; replace q159 := eq_true q159; have p160 : 0 ≤ (3 : Int) := (by omega); have q160 : 3 < (l0.length : Int) := of_decide_eq_true as_; obtain ⟨ad160, e160, hx160_0⟩ := Kd.at_int HR0.out 3 p160 q160; obtain rfl : ad157 = ad160 := (by injection e160); (try simp only [show (3 : Int).toNat = 3 from rfl, Nat.reduceMul, Nat.reduceEqDiff, Go.Addr.add, ↓reduceIte] at hx160_0); have qi160 : (3 < l0.length) = True := eq_true (by omega); (try rw [show ((3 : Int)).toNat = 3 from rfl] at hx160_0); replace hx160_0 := (HB.out.cell (World.block_lt_of_cell? w _ hx160_0)).trans hx160_0; replace p160 := eq_true p160; replace q160 := eq_true q160; have p161 : 0 ≤ (4 : Int) := (by omega); have q161 : 4 < (l0.length : Int) := of_decide_eq_true as_; obtain ⟨ad161, e161, hx161_0⟩ := Kd.at_int HR0.out 4 p161 q161; obtain rfl : ad157 = ad161 := (by injection e161); (try simp only [show (4 : Int).toNat = 4 from rfl, Nat.reduceMul, Nat.reduceEqDiff, Go.Addr.add, ↓reduceIte] at hx161_0); have qi161 : (4 < l0.length) = True := eq_true (by omega); (try rw [show ((4 : Int)).toNat = 4 from rfl] at hx161_0); replace hx161_0 := (HB.out.cell (World.block_lt_of_cell? w _ hx161_0)).trans hx161_0; replace p161 := eq_true p161; replace q161 := eq_true q161; have p162 : 0 ≤ (5 : Int) := (by omega); have q162 : 5 < (l0.length : Int) := of_decide_eq_true as_; obtain ⟨ad162, e162, hx162_0⟩ := Kd.at_int HR0.out 5 p162 q162; obtain rfl : ad157 = ad162 := (by injection e162); (try simp only [show (5 : Int).toNat = 5 from rfl, Nat.reduceMul, Nat.reduceEqDiff, Go.Addr.add, ↓reduceIte] at hx162_0); have qi162 : (5 < l0.length) = True := eq_true (by omega); (try rw [show ((5 : Int)).toNat = 5 from rfl] at hx162_0); replace hx162_0 := (HB.out.cell (World.block_lt_of_cell? w _ hx162_0)).trans hx162_0; replace p162 := eq_true p162; replace q162 := eq_true q162; have p163 : 0 ≤ (6 : Int) := (by omega); have q163 : 6 < (l0.length : Int) := of_decide_eq_true as_; obtain ⟨ad163, e163, hx163_0⟩ := Kd.at_int HR0.out 6 p163 q163; obtain rfl : ad157 = ad163 := (by injection e163); (try simp only [show (6 : Int).toNat = 6 from rfl, Nat.reduceMul, Nat.reduceEqDiff, Go.Addr.add, ↓reduceIte] at hx163_0); have qi163 : (6 < l0.length) = True := eq_true (by omega); (try rw [show ((6 : Int)).toNat = 6 from rfl] at hx163_0); replace hx163_0 := (HB.out.cell (World.block_lt_of_cell? w _ hx163_0)).trans hx163_0; replace p163 := eq_true p163; replace q163 := eq_true q163; have p164 : 0 ≤ (7 : Int) := (by omega); have q164 : 7 < (l0.length : Int) := of_decide_eq_true as_; obtain ⟨ad164, e164, hx164_0⟩ := Kd.at_int HR0.out 7 p164 q164; obtain rfl : ad157 = ad164 := (by injection e164); (try simp only [show (7 : Int).toNat = 7 from rfl, Nat.reduceMul, Nat.reduceEqDiff, Go.Addr.add, ↓reduceIte] at hx164_0); have qi164 : (7 < l0.length) = True := eq_true (by omega); (try rw [show ((7 : Int)).toNat = 7 from rfl] at hx164_0); replace hx164_0 := (HB.out.cell (World.block_lt_of_cell? w _ hx164_0)).trans hx164_0; replace p164 := eq_true p164; replace q164 := eq_true q164))
  go_loopg [10, 11, 12, 13, 14, 15, 16, 17, 18] k (fun kq v10 v11 v12 v13 v14 v15 v16 v17 v18 w' => ∃ (x10_1 : Int) (x11_1 : Int) (x12_1 : Int) (x13_1 : Int) (x14_1 : Int) (x15_1 : Int) (x16_1 : Int) (x17_1 : Int) (x18_1 : Int), v10 = .int .u32 x10_1 ∧ v11 = .int .u32 x11_1 ∧ v12 = .int .u32 x12_1 ∧ v13 = .int .u32 x13_1 ∧ v14 = .int .u32 x14_1 ∧ v15 = .int .u32 x15_1 ∧ v16 = .int .u32 x16_1 ∧ v17 = .int .u32 x17_1 ∧ v18 = .int .i64 x18_1 ∧ Aside0 (spec_l1Block.l0 kq l0 l1 t154 x10_1 x11_1 x12_1 x13_1 x14_1 x15_1 x16_1 x17_1 x18_1 = some r) ∧ Aside0 (kq ≤ k) ∧ Aside0 (Kd.R (Kd.int .u32) 171 w' w.heap.size (fun _ => True) v155 t154) ∧ Aside0 (Below w.heap.size w w'))
  case atStart => exact ⟨(rd l0 0), (rd l0 1), (rd l0 2), (rd l0 3), (rd l0 4), (rd l0 5), (rd l0 6), (rd l0 7), (0), rs_, rs_, rs_, rs_, rs_, rs_, rs_, rs_, rs_, H', ⟨Nat.le_refl _⟩, ⟨by (with_reducible repeat (first | apply Kd.R_alloc | apply Kd.R_drewN | apply Kd.R_drew)); exact HO156.out⟩, ⟨by repeat (first | (with_reducible first | exact HB.out | apply below_alloc | apply pw_below_drewN | apply below_drew1) | exact HB.out)⟩⟩
  case round =>
    clear H'
    try clear c1
    try clear p1
    try clear q1
    try clear hx1
    try clear qi1
    try clear c2
    try clear p2
    try clear c6
    try clear c6b0
    try clear c6b1
    try clear c7
    try clear c7b0
    try clear c7b1
    try clear c8
    try clear c8b0
    try clear c8b1
    try clear c9
    try clear c9b0
    try clear c9b1
    try clear c10
    try clear c10b0
    try clear c10b1
    try clear c11
    try clear c11b0
    try clear c11b1
    try clear c12
    try clear c12b0
    try clear c12b1
    try clear c13
    try clear c13b0
    try clear c13b1
    try clear hx157_0
    try clear hx158_0
    try clear hx159_0
    try clear hx160_0
    try clear hx161_0
    try clear hx162_0
    try clear hx163_0
    try clear hx164_0
    try clear p157
    try clear p158
    try clear p159
    try clear p160
    try clear p161
    try clear p162
    try clear p163
    try clear p164
    try clear q157
    try clear q158
    try clear q159
    try clear q160
    try clear q161
    try clear q162
    try clear q163
    try clear q164
    obtain ⟨x10_1, x11_1, x12_1, x13_1, x14_1, x15_1, x16_1, x17_1, x18_1, rfl, rfl, rfl, rfl, rfl, rfl, rfl, rfl, rfl, HA, HK1, HO_9, HB⟩ := hrel
    cases gk with
    | zero => exact absurd HA.out (by simp [spec_l1Block.l0])
    | succ k1 =>
      have H := HA.out
      clear HA
      simp only [spec_l1Block.l0] at H
      by_cases c15 : x18_1 < 64
      · rw [if_pos c15] at H
        have c15b0 := decide_eq_true c15
        clear c15
        replace H := Option.bind_eq_some_iff.mp H
        obtain ⟨t176, A160, H⟩ := H
        try dsimp only at H
        have A16 := Aside0.mk A160
        clear A160
        replace H := Option.bind_eq_some_iff.mp H
        obtain ⟨t177, A170, H⟩ := H
        try dsimp only at H
        have A17 := Aside0.mk A170
        clear A170
        replace H := Option.bind_eq_some_iff.mp H
        obtain ⟨t178, A180, H⟩ := H
        try dsimp only at H
        have A18 := Aside0.mk A180
        clear A180
        by_cases c19 : 0 ≤ x18_1
        rotate_left
        · rw [if_neg c19] at H
          exact absurd H (by simp)
        rw [if_pos c19] at H
        have c19b0 := decide_eq_true c19
        clear c19
        by_cases c20 : x18_1 < (l1.length : Int)
        rotate_left
        · rw [if_neg c20] at H
          exact absurd H (by simp)
        rw [if_pos c20] at H
        have c20b0 := decide_eq_true c20
        clear c20
        by_cases c21 : x18_1 < (t154.length : Int)
        rotate_left
        · rw [if_neg c21] at H
          exact absurd H (by simp)
        rw [if_pos c21] at H
        have c21b0 := decide_eq_true c21
        clear c21
        replace H := Option.bind_eq_some_iff.mp H
        obtain ⟨t181, A220, H⟩ := H
        try dsimp only at H
        have A22 := Aside0.mk A220
        clear A220
        replace H := Option.bind_eq_some_iff.mp H
        obtain ⟨t182, A230, H⟩ := H
        try dsimp only at H
        have A23 := Aside0.mk A230
        clear A230
        replace H := Option.bind_eq_some_iff.mp H
        obtain ⟨t183, A240, H⟩ := H
        try dsimp only at H
        have A24 := Aside0.mk A240
        clear A240
        have H' := Aside0.mk H
        clear H
        try go_wp2_with (first | ((with_reducible refine gate_callee (f := 155) rfl ?_); refine goesL_ (some 55) rfl rfl Tryz.func155 (by kernel_rfl) rfl #[.int .u32 x14_1, .int .i64 6] rfl ga_ ?_; (with_reducible refine (spec_l1Turn.calls x14_1 6 t176 _ A16.out).mono ?_); rintro e w' ⟨rfl, ⟨nd, rfl⟩⟩; refine ⟨_, rfl, ?_⟩) | ((with_reducible refine gate_callee (f := 155) rfl ?_); refine goesL_ (some 57) rfl rfl Tryz.func155 (by kernel_rfl) rfl #[.int .u32 x14_1, .int .i64 11] rfl ga_ ?_; (with_reducible refine (spec_l1Turn.calls x14_1 11 t177 _ A17.out).mono ?_); rintro e w' ⟨rfl, ⟨nd, rfl⟩⟩; refine ⟨_, rfl, ?_⟩) | ((with_reducible refine gate_callee (f := 155) rfl ?_); refine goesL_ (some 60) rfl rfl Tryz.func155 (by kernel_rfl) rfl #[.int .u32 x14_1, .int .i64 25] rfl ga_ ?_; (with_reducible refine (spec_l1Turn.calls x14_1 25 t178 _ A18.out).mono ?_); rintro e w' ⟨rfl, ⟨nd, rfl⟩⟩; refine ⟨_, rfl, ?_⟩))
        (try (repeat rw [World.drewN_drewN]))
        (try (rw [drewN_self wr]; generalize hq_ : World.drewN wr _ = wr; have n0_ : Aside0 (Kd.R (Kd.int .u32) 171 wr w.heap.size (fun _ => True) v155 t154) := ⟨by rw [← hq_]; exact (kr_ HO_9.out)⟩; have n1_ : Aside0 (Below w.heap.size w wr) := ⟨by rw [← hq_]; exact hb_⟩; clear HO_9 HB hq_; have HO_9 := n0_; have HB := n1_; clear n0_ n1_))
        have n0_ := Aside0.mk (Kd.R_drew HO_9.out)
        have n1_ := Aside0.mk (below_drew1 HB.out)
        clear HO_9
        clear HB
        have HO_9 := n0_
        have HB := n1_
        clear n0_ n1_
        have p179 : 0 ≤ (x18_1 : Int) := of_decide_eq_true as_
        have q179 : x18_1 < (l1.length : Int) := of_decide_eq_true as_
        obtain ⟨ad179, e179, hx179_0⟩ := Kd.at_int HR1.out x18_1 p179 q179
        have hw179_0 := hx179_0
        cases e179
        replace hx179_0 := (HB.out.cell (World.block_lt_of_cell? w _ hx179_0)).trans hx179_0
        replace p179 := eq_true p179
        replace q179 := eq_true q179
        obtain ⟨Ao26, co26, eo26⟩ := Kd.R_slice HO_9.out
        (first | subst eo26 | (injection eo26 with f1_ f2_ f3_; have f4_ := f1_.symm; have f5_ := f3_.symm; clear f1_ f2_ f3_; subst f4_; subst f5_))
        have p180 : 0 ≤ (x18_1 : Int) := of_decide_eq_true as_
        have q180 : x18_1 < (t154.length : Int) := of_decide_eq_true as_
        obtain ⟨ad180, e180, hx180_0⟩ := Kd.at_int (Kd.R_reads' HO_9.out).2.2 x18_1 p180 q180
        cases e180
        replace p180 := eq_true p180
        replace q180 := eq_true q180
        refine ss_ 23 (S := fun w' => w'.cell? (ad179.add (x18_1).toNat) = some (.int .u32 (rd l1 x18_1)) ∧ w'.cell? (ad180.add (x18_1).toNat) = some (.int .u32 (rd t154 x18_1))) (ds := []) ⟨((HB.out.cell (World.block_lt_of_cell? w _ hw179_0)).trans hw179_0), hx180_0⟩ (fun hHeld => ?_); refine with_tabW spec_l1Block.tab14 spec_l1Block.bits14 (fun HT_ HW_ => ?_)
        generalize wr.drew = w25 at HO_9 HB hx179_0 hx180_0 hHeld ⊢
        refine sp_ 0 HT_ ?_
        refine sp_ 1 HT_ ?_
        refine sp_ 2 HT_ ?_
        refine sp_ 3 HT_ ?_
        refine sp_ 4 HT_ ?_
        refine sp_ 5 HT_ ?_
        refine sp_ 6 HT_ ?_
        refine sp_ 7 HT_ ?_
        refine sp_ 8 HT_ ?_
        refine sp_ 9 HT_ ?_
        refine sp_ 10 HT_ ?_
        refine sp_ 11 HT_ ?_
        refine sp_ 12 HT_ ?_
        refine sp_ 13 HT_ ?_
        refine sp_ 14 HT_ ?_
        refine sp_ 17 HT_ ?_
        refine sp_ 18 HT_ ?_
        refine sp_ 19 HT_ ?_
        refine st_ 15 HT_ HW_ hHeld ?_
        refine sp_ 16 HT_ ?_
        refine st_ 20 HT_ HW_ hHeld ?_
        refine sp_ 21 HT_ ?_
        refine sp_ 22 HT_ ?_
        refine done_ (done_of HT_.out (by kernel_rfl)) ?_
        try go_wp2_with (first | ((with_reducible refine gate_callee (f := 155) rfl ?_); refine goesL_ (some 85) rfl rfl Tryz.func155 (by kernel_rfl) rfl #[.int .u32 x10_1, .int .i64 2] rfl ga_ ?_; (with_reducible refine (spec_l1Turn.calls x10_1 2 t181 _ A22.out).mono ?_); rintro e w' ⟨rfl, ⟨nd, rfl⟩⟩; refine ⟨_, rfl, ?_⟩) | ((with_reducible refine gate_callee (f := 155) rfl ?_); refine goesL_ (some 87) rfl rfl Tryz.func155 (by kernel_rfl) rfl #[.int .u32 x10_1, .int .i64 13] rfl ga_ ?_; (with_reducible refine (spec_l1Turn.calls x10_1 13 t182 _ A23.out).mono ?_); rintro e w' ⟨rfl, ⟨nd, rfl⟩⟩; refine ⟨_, rfl, ?_⟩) | ((with_reducible refine gate_callee (f := 155) rfl ?_); refine goesL_ (some 90) rfl rfl Tryz.func155 (by kernel_rfl) rfl #[.int .u32 x10_1, .int .i64 22] rfl ga_ ?_; (with_reducible refine (spec_l1Turn.calls x10_1 22 t183 _ A24.out).mono ?_); rintro e w' ⟨rfl, ⟨nd, rfl⟩⟩; refine ⟨_, rfl, ?_⟩))
        go_roundg k1
        case measure => have := HK1.out; omega
        case rel => exact ⟨((((((((((x17_1 + (Go.bits .xor .u32 (Go.bits .xor .u32 t176 t177) t178)) % 4294967296) + (Go.bits .xor .u32 (Go.bits .and .u32 x14_1 x15_1) (Go.bits .and .u32 (Go.bits .xor .u32 IntKind.u32.max x14_1) x16_1))) % 4294967296) + (rd l1 x18_1)) % 4294967296) + (rd t154 x18_1)) % 4294967296) + (((Go.bits .xor .u32 (Go.bits .xor .u32 t181 t182) t183) + (Go.bits .xor .u32 (Go.bits .xor .u32 (Go.bits .and .u32 x10_1 x11_1) (Go.bits .and .u32 x10_1 x12_1)) (Go.bits .and .u32 x11_1 x12_1))) % 4294967296)) % 4294967296), (x10_1), (x11_1), (x12_1), ((x13_1 + ((((((((x17_1 + (Go.bits .xor .u32 (Go.bits .xor .u32 t176 t177) t178)) % 4294967296) + (Go.bits .xor .u32 (Go.bits .and .u32 x14_1 x15_1) (Go.bits .and .u32 (Go.bits .xor .u32 IntKind.u32.max x14_1) x16_1))) % 4294967296) + (rd l1 x18_1)) % 4294967296) + (rd t154 x18_1)) % 4294967296)) % 4294967296), (x14_1), (x15_1), (x16_1), (wrap64 (x18_1 + 1)), rs_, rs_, rs_, rs_, rs_, rs_, rs_, rs_, rs_, H', ⟨by have := HK1.out; omega⟩, ⟨by (with_reducible repeat (first | apply Kd.R_alloc | apply Kd.R_drewN | apply Kd.R_drew)); exact HO_9.out⟩, ⟨by repeat (first | (with_reducible first | exact HB.out | apply below_alloc | apply pw_below_drewN | apply below_drew1) | exact HB.out)⟩⟩
      rw [if_neg c15] at H
      have c15b0 := decide_eq_false c15
      clear c15
      by_cases c27 : 0 < (l0.length : Int)
      rotate_left
      · rw [if_neg c27] at H
        exact absurd H (by simp)
      rw [if_pos c27] at H
      have c27b0 := decide_eq_true c27
      have c27b1 : decide (0 < l0.length) = true := decide_eq_true (by omega)
      clear c27
      by_cases c28 : 1 < (l0.length : Int)
      rotate_left
      · rw [if_neg c28] at H
        exact absurd H (by simp)
      rw [if_pos c28] at H
      have c28b0 := decide_eq_true c28
      have c28b1 : decide (1 < l0.length) = true := decide_eq_true (by omega)
      clear c28
      by_cases c29 : 2 < (l0.length : Int)
      rotate_left
      · rw [if_neg c29] at H
        exact absurd H (by simp)
      rw [if_pos c29] at H
      have c29b0 := decide_eq_true c29
      have c29b1 : decide (2 < l0.length) = true := decide_eq_true (by omega)
      clear c29
      by_cases c30 : 3 < (l0.length : Int)
      rotate_left
      · rw [if_neg c30] at H
        exact absurd H (by simp)
      rw [if_pos c30] at H
      have c30b0 := decide_eq_true c30
      have c30b1 : decide (3 < l0.length) = true := decide_eq_true (by omega)
      clear c30
      by_cases c31 : 4 < (l0.length : Int)
      rotate_left
      · rw [if_neg c31] at H
        exact absurd H (by simp)
      rw [if_pos c31] at H
      have c31b0 := decide_eq_true c31
      have c31b1 : decide (4 < l0.length) = true := decide_eq_true (by omega)
      clear c31
      by_cases c32 : 5 < (l0.length : Int)
      rotate_left
      · rw [if_neg c32] at H
        exact absurd H (by simp)
      rw [if_pos c32] at H
      have c32b0 := decide_eq_true c32
      have c32b1 : decide (5 < l0.length) = true := decide_eq_true (by omega)
      clear c32
      by_cases c33 : 6 < (l0.length : Int)
      rotate_left
      · rw [if_neg c33] at H
        exact absurd H (by simp)
      rw [if_pos c33] at H
      have c33b0 := decide_eq_true c33
      have c33b1 : decide (6 < l0.length) = true := decide_eq_true (by omega)
      clear c33
      by_cases c34 : 7 < (l0.length : Int)
      rotate_left
      · rw [if_neg c34] at H
        exact absurd H (by simp)
      rw [if_pos c34] at H
      have c34b0 := decide_eq_true c34
      have c34b1 : decide (7 < l0.length) = true := decide_eq_true (by omega)
      clear c34
      obtain ⟨y173, hy173⟩ : ∃ y_ : List Int, y_ = (([((rd l0 0) + x10_1) % 4294967296, ((rd l0 1) + x11_1) % 4294967296, ((rd l0 2) + x12_1) % 4294967296, ((rd l0 3) + x13_1) % 4294967296, ((rd l0 4) + x14_1) % 4294967296, ((rd l0 5) + x15_1) % 4294967296, ((rd l0 6) + x16_1) % 4294967296, ((rd l0 7) + x17_1) % 4294967296] : List Int)) := ⟨_, rfl⟩
      replace H : (some y173) = some r := by first | (rw [hy173]; with_reducible exact H) | (have H2_ := (Option.bind_some _ _).symm.trans H; rw [hy173]; with_reducible exact H2_) | (have H2_ := (Option.bind_some _ _).symm.trans H; with_reducible exact H2_) | with_reducible exact H | (rw [hy173]; exact H) | exact H
      have Ny173 := Aside0.mk hy173
      clear hy173
      obtain rfl := Option.some.inj H
      try go_wp2
      have n0_ := Aside0.mk (Kd.R_drew HO_9.out)
      have n1_ := Aside0.mk (below_drew1 HB.out)
      clear HO_9
      clear HB
      have HO_9 := n0_
      have HB := n1_
      clear n0_ n1_
      have p165 : 0 ≤ (0 : Int) := (by omega)
      have q165 : 0 < (l0.length : Int) := of_decide_eq_true as_
      obtain ⟨ad165, e165, hx165_0⟩ := Kd.at_int HR0.out 0 p165 q165
      have hw165_0 := hx165_0
      (try rw [show ((0 : Int)).toNat = 0 from rfl] at hw165_0)
      (try rw [show 0 * 1 = 0 from rfl] at hw165_0)
      (try rw [Addr.add_zero'] at hw165_0)
      obtain rfl : ad157 = ad165 := (by injection e165)
      have qi165 : (0 < l0.length) = True := eq_true (by omega)
      (try rw [show ((0 : Int)).toNat = 0 from rfl] at hx165_0)
      (try rw [Addr.add_zero'] at hx165_0)
      replace hx165_0 := (HB.out.cell (World.block_lt_of_cell? w _ hx165_0)).trans hx165_0
      replace p165 := eq_true p165
      replace q165 := eq_true q165
      have p166 : 0 ≤ (1 : Int) := (by omega)
      have q166 : 1 < (l0.length : Int) := of_decide_eq_true as_
      obtain ⟨ad166, e166, hx166_0⟩ := Kd.at_int HR0.out 1 p166 q166
      have hw166_0 := hx166_0
      (try rw [show ((1 : Int)).toNat = 1 from rfl] at hw166_0)
      (try rw [show 1 * 1 = 1 from rfl] at hw166_0)
      (try simp only [Nat.reduceMul, Nat.reduceEqDiff, Go.Addr.add, ↓reduceIte] at hw166_0)
      obtain rfl : ad157 = ad166 := (by injection e166)
      (try simp only [show (1 : Int).toNat = 1 from rfl, Nat.reduceMul, Nat.reduceEqDiff, Go.Addr.add, ↓reduceIte] at hx166_0)
      have qi166 : (1 < l0.length) = True := eq_true (by omega)
      (try rw [show ((1 : Int)).toNat = 1 from rfl] at hx166_0)
      replace hx166_0 := (HB.out.cell (World.block_lt_of_cell? w _ hx166_0)).trans hx166_0
      replace p166 := eq_true p166
      replace q166 := eq_true q166
      have p167 : 0 ≤ (2 : Int) := (by omega)
      have q167 : 2 < (l0.length : Int) := of_decide_eq_true as_
      obtain ⟨ad167, e167, hx167_0⟩ := Kd.at_int HR0.out 2 p167 q167
      have hw167_0 := hx167_0
      (try rw [show ((2 : Int)).toNat = 2 from rfl] at hw167_0)
      (try rw [show 2 * 1 = 2 from rfl] at hw167_0)
      (try simp only [Nat.reduceMul, Nat.reduceEqDiff, Go.Addr.add, ↓reduceIte] at hw167_0)
      obtain rfl : ad157 = ad167 := (by injection e167)
      (try simp only [show (2 : Int).toNat = 2 from rfl, Nat.reduceMul, Nat.reduceEqDiff, Go.Addr.add, ↓reduceIte] at hx167_0)
      have qi167 : (2 < l0.length) = True := eq_true (by omega)
      (try rw [show ((2 : Int)).toNat = 2 from rfl] at hx167_0)
      replace hx167_0 := (HB.out.cell (World.block_lt_of_cell? w _ hx167_0)).trans hx167_0
      replace p167 := eq_true p167
      replace q167 := eq_true q167
      have p168 : 0 ≤ (3 : Int) := (by omega)
      have q168 : 3 < (l0.length : Int) := of_decide_eq_true as_
      obtain ⟨ad168, e168, hx168_0⟩ := Kd.at_int HR0.out 3 p168 q168
      have hw168_0 := hx168_0
      (try rw [show ((3 : Int)).toNat = 3 from rfl] at hw168_0)
      (try rw [show 3 * 1 = 3 from rfl] at hw168_0)
      (try simp only [Nat.reduceMul, Nat.reduceEqDiff, Go.Addr.add, ↓reduceIte] at hw168_0)
      obtain rfl : ad157 = ad168 := (by injection e168)
      (try simp only [show (3 : Int).toNat = 3 from rfl, Nat.reduceMul, Nat.reduceEqDiff, Go.Addr.add, ↓reduceIte] at hx168_0)
      have qi168 : (3 < l0.length) = True := eq_true (by omega)
      (try rw [show ((3 : Int)).toNat = 3 from rfl] at hx168_0)
      replace hx168_0 := (HB.out.cell (World.block_lt_of_cell? w _ hx168_0)).trans hx168_0
      replace p168 := eq_true p168
      replace q168 := eq_true q168
      have p169 : 0 ≤ (4 : Int) := (by omega)
      have q169 : 4 < (l0.length : Int) := of_decide_eq_true as_
      obtain ⟨ad169, e169, hx169_0⟩ := Kd.at_int HR0.out 4 p169 q169
      have hw169_0 := hx169_0
      (try rw [show ((4 : Int)).toNat = 4 from rfl] at hw169_0)
      (try rw [show 4 * 1 = 4 from rfl] at hw169_0)
      (try simp only [Nat.reduceMul, Nat.reduceEqDiff, Go.Addr.add, ↓reduceIte] at hw169_0)
      obtain rfl : ad157 = ad169 := (by injection e169)
      (try simp only [show (4 : Int).toNat = 4 from rfl, Nat.reduceMul, Nat.reduceEqDiff, Go.Addr.add, ↓reduceIte] at hx169_0)
      have qi169 : (4 < l0.length) = True := eq_true (by omega)
      (try rw [show ((4 : Int)).toNat = 4 from rfl] at hx169_0)
      replace hx169_0 := (HB.out.cell (World.block_lt_of_cell? w _ hx169_0)).trans hx169_0
      replace p169 := eq_true p169
      replace q169 := eq_true q169
      have p170 : 0 ≤ (5 : Int) := (by omega)
      have q170 : 5 < (l0.length : Int) := of_decide_eq_true as_
      obtain ⟨ad170, e170, hx170_0⟩ := Kd.at_int HR0.out 5 p170 q170
      have hw170_0 := hx170_0
      (try rw [show ((5 : Int)).toNat = 5 from rfl] at hw170_0)
      (try rw [show 5 * 1 = 5 from rfl] at hw170_0)
      (try simp only [Nat.reduceMul, Nat.reduceEqDiff, Go.Addr.add, ↓reduceIte] at hw170_0)
      obtain rfl : ad157 = ad170 := (by injection e170)
      (try simp only [show (5 : Int).toNat = 5 from rfl, Nat.reduceMul, Nat.reduceEqDiff, Go.Addr.add, ↓reduceIte] at hx170_0)
      have qi170 : (5 < l0.length) = True := eq_true (by omega)
      (try rw [show ((5 : Int)).toNat = 5 from rfl] at hx170_0)
      replace hx170_0 := (HB.out.cell (World.block_lt_of_cell? w _ hx170_0)).trans hx170_0
      replace p170 := eq_true p170
      replace q170 := eq_true q170
      have p171 : 0 ≤ (6 : Int) := (by omega)
      have q171 : 6 < (l0.length : Int) := of_decide_eq_true as_
      obtain ⟨ad171, e171, hx171_0⟩ := Kd.at_int HR0.out 6 p171 q171
      have hw171_0 := hx171_0
      (try rw [show ((6 : Int)).toNat = 6 from rfl] at hw171_0)
      (try rw [show 6 * 1 = 6 from rfl] at hw171_0)
      (try simp only [Nat.reduceMul, Nat.reduceEqDiff, Go.Addr.add, ↓reduceIte] at hw171_0)
      obtain rfl : ad157 = ad171 := (by injection e171)
      (try simp only [show (6 : Int).toNat = 6 from rfl, Nat.reduceMul, Nat.reduceEqDiff, Go.Addr.add, ↓reduceIte] at hx171_0)
      have qi171 : (6 < l0.length) = True := eq_true (by omega)
      (try rw [show ((6 : Int)).toNat = 6 from rfl] at hx171_0)
      replace hx171_0 := (HB.out.cell (World.block_lt_of_cell? w _ hx171_0)).trans hx171_0
      replace p171 := eq_true p171
      replace q171 := eq_true q171
      have p172 : 0 ≤ (7 : Int) := (by omega)
      have q172 : 7 < (l0.length : Int) := of_decide_eq_true as_
      obtain ⟨ad172, e172, hx172_0⟩ := Kd.at_int HR0.out 7 p172 q172
      have hw172_0 := hx172_0
      (try rw [show ((7 : Int)).toNat = 7 from rfl] at hw172_0)
      (try rw [show 7 * 1 = 7 from rfl] at hw172_0)
      (try simp only [Nat.reduceMul, Nat.reduceEqDiff, Go.Addr.add, ↓reduceIte] at hw172_0)
      obtain rfl : ad157 = ad172 := (by injection e172)
      (try simp only [show (7 : Int).toNat = 7 from rfl, Nat.reduceMul, Nat.reduceEqDiff, Go.Addr.add, ↓reduceIte] at hx172_0)
      have qi172 : (7 < l0.length) = True := eq_true (by omega)
      (try rw [show ((7 : Int)).toNat = 7 from rfl] at hx172_0)
      replace hx172_0 := (HB.out.cell (World.block_lt_of_cell? w _ hx172_0)).trans hx172_0
      replace p172 := eq_true p172
      replace q172 := eq_true q172
      refine ss_ 42 (S := fun w' => w'.cell? ad157 = some (.int .u32 (rd l0 0)) ∧ w'.cell? ⟨ad157.block, ad157.off + 1, none⟩ = some (.int .u32 (rd l0 1)) ∧ w'.cell? ⟨ad157.block, ad157.off + 2, none⟩ = some (.int .u32 (rd l0 2)) ∧ w'.cell? ⟨ad157.block, ad157.off + 3, none⟩ = some (.int .u32 (rd l0 3)) ∧ w'.cell? ⟨ad157.block, ad157.off + 4, none⟩ = some (.int .u32 (rd l0 4)) ∧ w'.cell? ⟨ad157.block, ad157.off + 5, none⟩ = some (.int .u32 (rd l0 5)) ∧ w'.cell? ⟨ad157.block, ad157.off + 6, none⟩ = some (.int .u32 (rd l0 6)) ∧ w'.cell? ⟨ad157.block, ad157.off + 7, none⟩ = some (.int .u32 (rd l0 7))) (ds := []) ⟨((HB.out.cell (World.block_lt_of_cell? w _ hw165_0)).trans hw165_0), ((HB.out.cell (World.block_lt_of_cell? w _ hw166_0)).trans hw166_0), ((HB.out.cell (World.block_lt_of_cell? w _ hw167_0)).trans hw167_0), ((HB.out.cell (World.block_lt_of_cell? w _ hw168_0)).trans hw168_0), ((HB.out.cell (World.block_lt_of_cell? w _ hw169_0)).trans hw169_0), ((HB.out.cell (World.block_lt_of_cell? w _ hw170_0)).trans hw170_0), ((HB.out.cell (World.block_lt_of_cell? w _ hw171_0)).trans hw171_0), ((HB.out.cell (World.block_lt_of_cell? w _ hw172_0)).trans hw172_0)⟩ (fun hHeld => ?_); refine with_tabW spec_l1Block.tab25 spec_l1Block.bits25 (fun HT_ HW_ => ?_)
      generalize wr.drew = w35 at HO_9 HB hx165_0 hx166_0 hx167_0 hx168_0 hx169_0 hx170_0 hx171_0 hx172_0 hHeld ⊢
      refine sp_ 0 HT_ ?_
      refine sp_ 1 HT_ ?_
      refine sp_ 3 HT_ ?_
      refine sp_ 5 HT_ ?_
      refine sp_ 6 HT_ ?_
      refine sp_ 8 HT_ ?_
      refine sp_ 10 HT_ ?_
      refine sp_ 11 HT_ ?_
      refine sp_ 13 HT_ ?_
      refine sp_ 15 HT_ ?_
      refine sp_ 16 HT_ ?_
      refine sp_ 18 HT_ ?_
      refine sp_ 20 HT_ ?_
      refine sp_ 21 HT_ ?_
      refine sp_ 23 HT_ ?_
      refine sp_ 25 HT_ ?_
      refine sp_ 26 HT_ ?_
      refine sp_ 28 HT_ ?_
      refine sp_ 30 HT_ ?_
      refine sp_ 31 HT_ ?_
      refine sp_ 33 HT_ ?_
      refine sp_ 35 HT_ ?_
      refine sp_ 36 HT_ ?_
      refine sp_ 38 HT_ ?_
      refine st_ 2 HT_ HW_ hHeld ?_
      refine sp_ 4 HT_ ?_
      refine st_ 7 HT_ HW_ hHeld ?_
      refine sp_ 9 HT_ ?_
      refine st_ 12 HT_ HW_ hHeld ?_
      refine sp_ 14 HT_ ?_
      refine st_ 17 HT_ HW_ hHeld ?_
      refine sp_ 19 HT_ ?_
      refine st_ 22 HT_ HW_ hHeld ?_
      refine sp_ 24 HT_ ?_
      refine st_ 27 HT_ HW_ hHeld ?_
      refine sp_ 29 HT_ ?_
      refine st_ 32 HT_ HW_ hHeld ?_
      refine sp_ 34 HT_ ?_
      refine st_ 37 HT_ HW_ hHeld ?_
      refine sp_ 39 HT_ ?_
      refine so_ 40 HT_ (fun K hK => ?_)
      refine Kd.R_lit_step (Kd.int .u32) _ 171 ?hg (N := 157) ?hd (xs := ([((rd l0 0) + x10_1) % 4294967296, ((rd l0 1) + x11_1) % 4294967296, ((rd l0 2) + x12_1) % 4294967296, ((rd l0 3) + x13_1) % 4294967296, ((rd l0 4) + x14_1) % 4294967296, ((rd l0 5) + x15_1) % 4294967296, ((rd l0 6) + x16_1) % 4294967296, ((rd l0 7) + x17_1) % 4294967296] : List Int)) (inner := [.int .u32 (((rd l0 0) + x10_1) % 4294967296), .int .u32 (((rd l0 1) + x11_1) % 4294967296), .int .u32 (((rd l0 2) + x12_1) % 4294967296), .int .u32 (((rd l0 3) + x13_1) % 4294967296), .int .u32 (((rd l0 4) + x14_1) % 4294967296), .int .u32 (((rd l0 5) + x15_1) % 4294967296), .int .u32 (((rd l0 6) + x16_1) % 4294967296), .int .u32 (((rd l0 7) + x17_1) % 4294967296)]) (ok := fun _ => True) (okp := fun _ => True) ?hr ?hp (fun _ hk => hk) trivial (Below.refl _ _) (Nat.le_refl _) (by simp) ?_; (case hd => rfl); (case hg => rfl); (case hr => first | (go_simp; done) | (go_simp; rfl)); (case hp => exact (Reps.one (show Kd.M (Kd.int .u32) _ _ _ (((rd l0 0) + x10_1) % 4294967296) [.int .u32 (((rd l0 0) + x10_1) % 4294967296)] from rfl) (Reps.one (show Kd.M (Kd.int .u32) _ _ _ (((rd l0 1) + x11_1) % 4294967296) [.int .u32 (((rd l0 1) + x11_1) % 4294967296)] from rfl) (Reps.one (show Kd.M (Kd.int .u32) _ _ _ (((rd l0 2) + x12_1) % 4294967296) [.int .u32 (((rd l0 2) + x12_1) % 4294967296)] from rfl) (Reps.one (show Kd.M (Kd.int .u32) _ _ _ (((rd l0 3) + x13_1) % 4294967296) [.int .u32 (((rd l0 3) + x13_1) % 4294967296)] from rfl) (Reps.one (show Kd.M (Kd.int .u32) _ _ _ (((rd l0 4) + x14_1) % 4294967296) [.int .u32 (((rd l0 4) + x14_1) % 4294967296)] from rfl) (Reps.one (show Kd.M (Kd.int .u32) _ _ _ (((rd l0 5) + x15_1) % 4294967296) [.int .u32 (((rd l0 5) + x15_1) % 4294967296)] from rfl) (Reps.one (show Kd.M (Kd.int .u32) _ _ _ (((rd l0 6) + x16_1) % 4294967296) [.int .u32 (((rd l0 6) + x16_1) % 4294967296)] from rfl) (Reps.one (show Kd.M (Kd.int .u32) _ _ _ (((rd l0 7) + x17_1) % 4294967296) [.int .u32 (((rd l0 7) + x17_1) % 4294967296)] from rfl) (Reps.none _ _))))))))))
      intro v174 w36 ho37 hb hg_ hnew_
      clear hg_ hnew_
      (first | rw [← Ny173.out] at ho37 | (simp only [Int.reduceToNat] at ho37; rw [← Ny173.out] at ho37))
      have n0_ := Aside0.mk (Kd.R_elder' (kr_ HO_9.out) (Kd.R_base ho37) hb)
      have n1_ := Aside0.mk (Kd.R_lower (Kd.R_new' ho37 (Kd.R_lt (kr_ HO_9.out))) (below_size hb_))
      have n2_ := Aside0.mk (below_step hb_ hb)
      clear HO_9
      clear HB
      have HO_9 := n0_
      have HO175 := n1_
      have HB := n2_
      clear n0_ n1_ n2_
      clear hb ho37
      refine hK.out _ _ ⟨((HB.out.cell (World.block_lt_of_cell? w _ hw165_0)).trans hw165_0), ((HB.out.cell (World.block_lt_of_cell? w _ hw166_0)).trans hw166_0), ((HB.out.cell (World.block_lt_of_cell? w _ hw167_0)).trans hw167_0), ((HB.out.cell (World.block_lt_of_cell? w _ hw168_0)).trans hw168_0), ((HB.out.cell (World.block_lt_of_cell? w _ hw169_0)).trans hw169_0), ((HB.out.cell (World.block_lt_of_cell? w _ hw170_0)).trans hw170_0), ((HB.out.cell (World.block_lt_of_cell? w _ hw171_0)).trans hw171_0), ((HB.out.cell (World.block_lt_of_cell? w _ hw172_0)).trans hw172_0)⟩ (fun hHeld => ?_)
      clear hK K
      refine norm_ (a' := ?_) ?_ ?_
      rotate_left
      · show Act.put _ (some 157) _ = _
        simp only [Act.put, List.setIfInBounds_toArray, List.set_cons_zero, List.set_cons_succ, i64_w, i32_w]
        rfl
      refine sp_ 41 HT_ ?_
      refine done_ (done_of HT_.out (by kernel_rfl)) ?_
      try go_wp2
      go_ret
      exact ⟨_, by first | rfl | (simp [errW_none, errW_some] <;> rfl) | (simp [*, errW_none, errW_some] <;> rfl), by (with_reducible repeat (first | apply Kd.R_alloc | apply Kd.R_drewN | apply Kd.R_drew)); exact Kd.R_mono HO175.out (fun _ hk => trivial), by repeat (first | (with_reducible first | exact HB.out | apply below_alloc | apply pw_below_drewN | apply below_drew1) | exact HB.out)⟩
end Go.Proofs.YtgdcafbdkidamaaGreatDoor.B
end
section
namespace Go.Proofs.YtgdcafbdkidamaaGreatDoor.Sx
open Go.RowKit Go.Proofs.YtgdcafbdkidamaaGreatDoor.B Go.Proofs.YtgdcafbdkidamaaGreatDoor.H0 Go.Proofs.YtgdcafbdkidamaaGreatDoorW.PrintWords Go.Proofs.YtgdcafbdkidamaaGreatDoorW.PrintLast Go.Proofs.YtgdcafbdkidamaaGreatDoorW.PrintMore
set_option linter.unusedVariables false
set_option linter.unusedSimpArgs false
/-- eight words -/
structure W8 where
  (a b c d e f g h : Int)
/-- the two sums of a round -/
def t1 (s : W8) (k w : Int) : Int :=
  ((((s.h + Go.bits .xor .u32 (Go.bits .xor .u32 (tn s.e 6) (tn s.e 11)) (tn s.e 25)) % 4294967296 + Go.bits .xor .u32 (Go.bits .and .u32 s.e s.f) (Go.bits .and .u32 (Go.bits .xor .u32 IntKind.u32.max s.e) s.g)) % 4294967296 + k) % 4294967296 + w) % 4294967296
def t2 (s : W8) : Int :=
  (Go.bits .xor .u32 (Go.bits .xor .u32 (tn s.a 2) (tn s.a 13)) (tn s.a 22) + Go.bits .xor .u32 (Go.bits .xor .u32 (Go.bits .and .u32 s.a s.b) (Go.bits .and .u32 s.a s.c)) (Go.bits .and .u32 s.b s.c)) % 4294967296
def rnd (s : W8) (k w : Int) : W8 := ⟨(t1 s k w + t2 s) % 4294967296, s.a, s.b, s.c, (s.d + t1 s k w) % 4294967296, s.e, s.f, s.g⟩
def rnds (ks ws : List Int) (s : W8) : Nat → W8
  | 0 => s
  | n + 1 => rnd (rnds ks ws s n) (rd ks n) (rd ws n)
def of8 (h : List Int) : W8 := ⟨rd h 0, rd h 1, rd h 2, rd h 3, rd h 4, rd h 5, rd h 6, rd h 7⟩
def sum8 (h : List Int) (s : W8) : List Int :=
  [(rd h 0 + s.a) % 4294967296, (rd h 1 + s.b) % 4294967296, (rd h 2 + s.c) % 4294967296, (rd h 3 + s.d) % 4294967296, (rd h 4 + s.e) % 4294967296, (rd h 5 + s.f) % 4294967296, (rd h 6 + s.g) % 4294967296, (rd h 7 + s.h) % 4294967296]
/-- the eight words behind a block that begins at p -/
def block (ks h m : List Int) (p : Int) : List Int := sum8 h (rnds ks (sched m p) (of8 h) 64)
theorem block_len (ks h m : List Int) (p : Int) : (block ks h m p).length = 8 := rfl

theorem block_go (h ks ws : List Int) (hh : h.length = 8) (hk : ks.length = 64) (hw : ws.length = 64) (s0 : W8) : ∀ (d n k : Nat), n + d = 64 → d < k →
    spec_l1Block.l0 k h ks ws (rnds ks ws s0 n).a (rnds ks ws s0 n).b (rnds ks ws s0 n).c (rnds ks ws s0 n).d (rnds ks ws s0 n).e (rnds ks ws s0 n).f (rnds ks ws s0 n).g (rnds ks ws s0 n).h n = some (sum8 h (rnds ks ws s0 64))
  | 0, n, k, hn, hd => by
    obtain ⟨k, rfl⟩ : ∃ j, k = j + 1 := ⟨k - 1, by omega⟩
    obtain rfl : n = 64 := by omega
    rw [spec_l1Block.l0, if_neg (by decide), if_pos (by omega), if_pos (by omega), if_pos (by omega), if_pos (by omega), if_pos (by omega), if_pos (by omega), if_pos (by omega), if_pos (by omega)]
    rfl
  | d + 1, n, k, hn, hd => by
    obtain ⟨k, rfl⟩ : ∃ j, k = j + 1 := ⟨k - 1, by omega⟩
    have ih := block_go h ks ws hh hk hw s0 d (n + 1) k (by omega) (by omega)
    rw [rnds] at ih
    generalize rnds ks ws s0 n = s at *
    rw [spec_l1Block.l0, if_pos (by omega)]
    rw [turn_tn _ 6 (by decide) (by decide), Option.bind_some, turn_tn _ 11 (by decide) (by decide), Option.bind_some, turn_tn _ 25 (by decide) (by decide), Option.bind_some]
    rw [if_pos (by omega), if_pos (by omega), if_pos (by omega)]
    rw [turn_tn _ 2 (by decide) (by decide), Option.bind_some, turn_tn _ 13 (by decide) (by decide), Option.bind_some, turn_tn _ 22 (by decide) (by decide), Option.bind_some]
    rw [w64 (n := (n : Int) + 1) (by omega) (by omega)]
    rw [show ((n + 1 : Nat) : Int) = (n : Int) + 1 by omega] at ih
    exact ih

theorem block_spec (ks h m : List Int) (p : Int) (hh : h.length = 8) (hk : ks.length = 64) (hp : 0 ≤ p) (hm : p + 64 ≤ m.length) (hx : m.length ≤ 1000000000000) {k : Nat} (hd : 80 ≤ k) :
    spec_l1Block.f k h ks m p = some (block ks h m p) := by
  unfold spec_l1Block.f
  rw [sched_spec m p hp hm hx hd, Option.bind_some]
  rw [if_pos (by omega), if_pos (by omega), if_pos (by omega), if_pos (by omega), if_pos (by omega), if_pos (by omega), if_pos (by omega), if_pos (by omega)]
  exact block_go h ks (sched m p) hh hk (sched_len m p) (of8 h) 64 0 k (by omega) (by omega)
end Go.Proofs.YtgdcafbdkidamaaGreatDoor.Sx
end
section
namespace Go.Proofs.YtgdcafbdkidamaaGreatDoor.B
open Go.Proofs.YtgdcafbdkidamaaGreatDoor.Sq Go.RowKit Go.Proofs.YtgdcafbdkidamaaGreatDoor.H0 Go.Proofs.YtgdcafbdkidamaaGreatDoor.F0 Go.Proofs.YtgdcafbdkidamaaGreatDoorW.PrintWords Go.Proofs.YtgdcafbdkidamaaGreatDoorW.PrintLast Go.Proofs.YtgdcafbdkidamaaGreatDoorW.PrintMore
attribute [local go_sem high] field_num_fieldP   -- for this text's walks alone
attribute [local go_sem] max2_int min2_int max_two min_two max_three min_three max_four min_four   -- for this text's walks alone
set_option linter.unusedVariables false
set_option linter.unusedSimpArgs false
mutual
def spec_Reduce.j0 : Nat → ByteArray → Int → Bool → Option (Int)
  | 0, _, _, _ => none
  | k + 1, x0, x1, x14 => if x14 = true then (some 0) else (spec_Reduce.l0 k x0 x1 0 0)
def spec_Reduce.l0 : Nat → ByteArray → Int → Int → Int → Option (Int)
  | 0, _, _, _, _ => none
  | k + 1, x0, x1, x5, x6 => if x6 < (x0.size : Int) then (spec_Reduce.l1 k x0 x1 x5 x6 7) else (some x5)
def spec_Reduce.l1 : Nat → ByteArray → Int → Int → Int → Int → Option (Int)
  | 0, _, _, _, _, _ => none
  | k + 1, x0, x1, x5, x6, x7 => if x7 ≥ 0 then ((spec_l2Add.f x5 x5 x1).bind fun t205 => (if 0 ≤ x6 then (if x6 < (x0.size : Int) then (if 0 ≤ (IntKind.u64.wrap (x7)) then (if (Int.tmod (shr .u8 (bt x0 x6) (IntKind.u64.wrap (x7))) 2) = 1 then (if x1 = 0 then (none) else ((spec_l2Add.f t205 ((1 : Int) % x1) x1).bind fun t206 => (spec_Reduce.l1 k x0 x1 t206 x6 (wrap64 (x7 - 1))))) else (spec_Reduce.l1 k x0 x1 t205 x6 (wrap64 (x7 - 1)))) else (none)) else (none)) else (none))) else (spec_Reduce.l0 k x0 x1 x5 (wrap64 (x6 + 1)))
end
def spec_Reduce.f (k : Nat) (a0 : ByteArray) (a1 : Int) : Option (Int) := if a1 = 0 then (spec_Reduce.j0 k a0 a1 true) else (spec_Reduce.j0 k a0 a1 (decide ((a0.size : Int) > 65535)))
set_option maxHeartbeats 8000000 in
set_option maxRecDepth 100000 in
theorem spec_Reduce.calls (k : Nat) (a0 : ByteArray) (a1 : Int) (r : Int) (w : World) (h : spec_Reduce.f k a0 a1 = some r) :
    Calls Tryz.prog 150 #[.string a0, .int .u64 a1] w fun e w' => e = .returned (.int .u64 r) ∧ Drawn0 w w' := by
  have H : (if a1 = 0 then (spec_Reduce.j0 k a0 a1 true) else (spec_Reduce.j0 k a0 a1 (decide ((a0.size : Int) > 65535)))) = some r := h
  clear h
  have HC3 := Aside0.mk H
  clear H
  go_enter Tryz.func150, Tryz.ntmps150
  go_upto_region 1 with (fail)
  go_cut [14] (fun v14 wc => ∃ (kq : Nat) (x14_2 : Bool), v14 = .bool x14_2 ∧ Aside0 (spec_Reduce.j0 kq a0 a1 x14_2 = some r) ∧ Aside0 (kq ≤ k) ∧ Drawn0 w wc)
  case first =>
    have H := HC3.out
    clear HC3
    by_cases c4 : a1 = 0
    · rw [if_pos c4] at H
      have c4b0 : (a1 == 0) = true := beq_iff_eq.mpr c4
      have c4b1 : (a1 != 0) = false := bne_eq_false_iff_eq.mpr c4
      clear c4
      (first | rw [c4b0] | (simp only [i64_w, i32_w]; rw [c4b0]) | skip)
      have H' := Aside0.mk H
      clear H
      go_wp2
      go_meet
      case rel => exact ⟨_, (true), rs_, H', ⟨by first | omega | exact Nat.le_refl _⟩, by repeat (first | exact Drawn0.refl _ | apply Drawn0.step)⟩
    rw [if_neg c4] at H
    have c4b0 : (a1 == 0) = false := beq_eq_false_iff_ne.mpr c4
    have c4b1 : (a1 != 0) = true := bne_iff_ne.mpr c4
    (first | rw [c4b0] | (simp only [i64_w, i32_w]; rw [c4b0]) | skip)
    have H' := Aside0.mk H
    clear H
    go_wp2
    go_meet
    case rel => exact ⟨_, (decide ((a0.size : Int) > 65535)), rs_, H', ⟨by first | omega | exact Nat.le_refl _⟩, by repeat (first | exact Drawn0.refl _ | apply Drawn0.step)⟩
  case rest =>
    clear HC3
    try clear c1
    try clear p2
    try clear c4
    try clear c4b0
    try clear c4b1
    obtain ⟨kq, x14_2, rfl, HA, HJ2, ⟨mc2, rfl⟩⟩ := hcut
    cases kq with
    | zero => exact absurd HA.out (by simp [spec_Reduce.j0])
    | succ kj2 =>
      have H := HA.out
      clear HA
      simp only [spec_Reduce.j0] at H
      by_cases c5 : x14_2 = true
      · subst c5
        have H1 : (some 0) = some r := by rw [if_pos rfl] at H; exact H
        clear H
        have H := H1
        clear H1
        obtain rfl := Option.some.inj H
        go_wp2
        go_ret
        exact ⟨by first | rfl | (simp; done) | (simp [*]; done), by repeat (first | exact Drawn0.refl _ | apply Drawn0.step)⟩
      replace c5 := Bool.eq_false_iff.mpr c5
      subst c5
      have H1 : (spec_Reduce.l0 kj2 a0 a1 0 0) = some r := by rw [if_neg (show ¬ (false = true) by decide)] at H; exact H
      clear H
      have H := H1
      clear H1
      have H' := Aside0.mk H
      clear H
      go_wp2
      go_loopg [5, 6] kj2 (fun kq v5 v6 w' => ∃ (x5_2 : Int) (x6_2 : Int), v5 = .int .u64 x5_2 ∧ v6 = .int .i64 x6_2 ∧ Aside0 (spec_Reduce.l0 kq a0 a1 x5_2 x6_2 = some r) ∧ Aside0 (kq ≤ kj2) ∧ Drawn0 w w')
      case atStart => exact ⟨(0), (0), rs_, rs_, H', ⟨Nat.le_refl _⟩, by repeat (first | exact Drawn0.refl _ | apply Drawn0.step)⟩
      case round =>
        clear H'
        try clear c1
        try clear c2
        try clear p2
        try clear c4
        try clear c4b0
        try clear c4b1
        try clear c5
        try clear p2
        obtain ⟨x5_2, x6_2, rfl, rfl, HA, HK2, ⟨m2, rfl⟩⟩ := hrel
        cases gk with
        | zero => exact absurd HA.out (by simp [spec_Reduce.l0])
        | succ k2 =>
          have H := HA.out
          clear HA
          simp only [spec_Reduce.l0] at H
          by_cases c6 : x6_2 < (a0.size : Int)
          rotate_left
          · rw [if_neg c6] at H
            have c6b0 := decide_eq_false c6
            clear c6
            obtain rfl := Option.some.inj H
            go_wp2
            go_ret
            exact ⟨by first | rfl | (simp; done) | (simp [*]; done), by repeat (first | exact Drawn0.refl _ | apply Drawn0.step)⟩

          rw [if_pos c6] at H
          have c6b0 := decide_eq_true c6
          clear c6
          have H' := Aside0.mk H
          clear H
          go_wp2
          go_loopg [5, 7] k2 (fun kq v5 v7 w' => ∃ (x5_3 : Int) (x7_3 : Int), v5 = .int .u64 x5_3 ∧ v7 = .int .i64 x7_3 ∧ Aside0 (spec_Reduce.l1 kq a0 a1 x5_3 x6_2 x7_3 = some r) ∧ Aside0 (kq ≤ k2) ∧ Drawn0 w w')
          case atStart => exact ⟨(x5_2), (7), rs_, rs_, H', ⟨Nat.le_refl _⟩, by repeat (first | exact Drawn0.refl _ | apply Drawn0.step)⟩
          case round =>
            clear H'
            try clear c1
            try clear c2
            try clear p2
            try clear c4
            try clear c4b0
            try clear c4b1
            try clear c5
            try clear c6
            try clear c6b0
            try clear p2
            obtain ⟨x5_3, x7_3, rfl, rfl, HA, HK3, ⟨m3, rfl⟩⟩ := hrel
            cases gk with
            | zero => exact absurd HA.out (by simp [spec_Reduce.l1])
            | succ k3 =>
              have H := HA.out
              clear HA
              simp only [spec_Reduce.l1] at H
              by_cases c7 : x7_3 ≥ 0
              rotate_left
              · rw [if_neg c7] at H
                have c7b0 := decide_eq_false c7
                clear c7
                have H' := Aside0.mk H
                clear H
                go_wp2
                go_roundg k3
                case measure => have := HJ2.out; have := HK2.out; have := HK3.out; omega
                case rel => exact ⟨(x5_3), (wrap64 (x6_2 + 1)), rs_, rs_, H', ⟨by have := HJ2.out; have := HK2.out; have := HK3.out; omega⟩, by repeat (first | exact Drawn0.refl _ | apply Drawn0.step)⟩
              rw [if_pos c7] at H
              have c7b0 := decide_eq_true c7
              clear c7
              replace H := Option.bind_eq_some_iff.mp H
              obtain ⟨t205, A80, H⟩ := H
              try dsimp only at H
              have A8 := Aside0.mk A80
              clear A80
              by_cases c9 : 0 ≤ x6_2
              rotate_left
              · rw [if_neg c9] at H
                exact absurd H (by simp)
              rw [if_pos c9] at H
              have c9b0 := decide_eq_true c9
              clear c9
              by_cases c10 : x6_2 < (a0.size : Int)
              rotate_left
              · rw [if_neg c10] at H
                exact absurd H (by simp)
              rw [if_pos c10] at H
              have c10b0 := decide_eq_true c10
              clear c10
              obtain ⟨ji12, hji12⟩ : ∃ j_ : Int, (IntKind.u64.wrap (x7_3)) = j_ := ⟨_, rfl⟩
              replace H : (if 0 ≤ (ji12) then (if (Int.tmod (shr .u8 (bt a0 x6_2) (ji12)) 2) = 1 then (if a1 = 0 then (none) else ((spec_l2Add.f t205 ((1 : Int) % a1) a1).bind fun t206 => (spec_Reduce.l1 k3 a0 a1 t206 x6_2 (wrap64 (x7_3 - 1))))) else (spec_Reduce.l1 k3 a0 a1 t205 x6_2 (wrap64 (x7_3 - 1)))) else (none)) = some r := by first | (rw [hji12] at H; exact H) | (simp only [hji12] at H ⊢; exact H)
              (try rw [hji12] at A8)
              by_cases c13 : 0 ≤ (ji12)
              rotate_left
              · rw [if_neg c13] at H
                exact absurd H (by simp)
              rw [if_pos c13] at H
              have c13b0 := eq_true c13
              have c13b1 := decide_eq_true c13
              clear c13
              obtain ⟨ji14, hji14⟩ : ∃ j_ : Int, (shr .u8 (bt a0 x6_2) (ji12)) = j_ := ⟨_, rfl⟩
              replace H : (if (Int.tmod (ji14) 2) = 1 then (if a1 = 0 then (none) else ((spec_l2Add.f t205 ((1 : Int) % a1) a1).bind fun t206 => (spec_Reduce.l1 k3 a0 a1 t206 x6_2 (wrap64 (x7_3 - 1))))) else (spec_Reduce.l1 k3 a0 a1 t205 x6_2 (wrap64 (x7_3 - 1)))) = some r := by first | (rw [hji14] at H; exact H) | (simp only [hji14] at H ⊢; exact H)
              (try rw [hji14] at A8)
              have hji14_ : ((bt a0 x6_2) / 2 ^ min (ji12).toNat 8) = ji14 := hji14
              have hji14z : (ji12) ≤ 8 → ((bt a0 x6_2) / 2 ^ (ji12).toNat) = ji14 := shr_small hji14
              by_cases c15 : (Int.tmod (ji14) 2) = 1
              rotate_left
              · rw [if_neg c15] at H
                have c15b0 : ((Int.tmod (ji14) 2) == 1) = false := beq_eq_false_iff_ne.mpr c15
                have c15b1 : ((Int.tmod (ji14) 2) != 1) = true := bne_iff_ne.mpr c15
                have H' := Aside0.mk H
                clear H
                go_wp2_with (first | ((with_reducible refine gate_callee (f := 57) rfl ?_); refine goesL_ (some 28) rfl rfl Tryz.func57 (by kernel_rfl) rfl #[.int .u64 x5_3, .int .u64 x5_3, .int .u64 a1] rfl ga_ ?_; (with_reducible refine (spec_l2Add.calls x5_3 x5_3 a1 t205 _ A8.out).mono ?_); rintro e w' ⟨rfl, ⟨nd, rfl⟩⟩; refine ⟨_, rfl, ?_⟩; have p11 : 0 ≤ (x6_2 : Int) := of_decide_eq_true as_; have q11 : x6_2 < (a0.size : Int) := of_decide_eq_true as_; have hx11 := bt_at a0 x6_2; replace p11 := eq_true p11; replace q11 := eq_true q11))
                go_roundg k3
                case measure => have := HJ2.out; have := HK2.out; have := HK3.out; omega
                case rel => exact ⟨(t205), (wrap64 (x7_3 - 1)), rs_, rs_, H', ⟨by have := HJ2.out; have := HK2.out; have := HK3.out; omega⟩, by repeat (first | exact Drawn0.refl _ | apply Drawn0.step)⟩
              rw [if_pos c15] at H
              have c15b0 : ((Int.tmod (ji14) 2) == 1) = true := beq_iff_eq.mpr c15
              have c15b1 : ((Int.tmod (ji14) 2) != 1) = false := bne_eq_false_iff_eq.mpr c15
              clear c15
              by_cases c16 : a1 = 0
              · rw [if_pos c16] at H
                exact absurd H (by simp)
              rw [if_neg c16] at H
              have c16b0 : (a1 == 0) = false := beq_eq_false_iff_ne.mpr c16
              have c16b1 : (a1 != 0) = true := bne_iff_ne.mpr c16
              replace H := Option.bind_eq_some_iff.mp H
              obtain ⟨t206, A170, H⟩ := H
              try dsimp only at H
              have A17 := Aside0.mk A170
              clear A170
              have H' := Aside0.mk H
              clear H
              go_wp2_with (first | ((with_reducible refine gate_callee (f := 57) rfl ?_); refine goesL_ (some 28) rfl rfl Tryz.func57 (by kernel_rfl) rfl #[.int .u64 x5_3, .int .u64 x5_3, .int .u64 a1] rfl ga_ ?_; (with_reducible refine (spec_l2Add.calls x5_3 x5_3 a1 t205 _ A8.out).mono ?_); rintro e w' ⟨rfl, ⟨nd, rfl⟩⟩; refine ⟨_, rfl, ?_⟩; have p11 : 0 ≤ (x6_2 : Int) := of_decide_eq_true as_; have q11 : x6_2 < (a0.size : Int) := of_decide_eq_true as_; have hx11 := bt_at a0 x6_2; replace p11 := eq_true p11; replace q11 := eq_true q11) | ((with_reducible refine gate_callee (f := 57) rfl ?_); refine goesL_ (some 41) rfl rfl Tryz.func57 (by kernel_rfl) rfl #[.int .u64 t205, .int .u64 ((1 : Int) % a1), .int .u64 a1] rfl ga_ ?_; (with_reducible refine (spec_l2Add.calls t205 ((1 : Int) % a1) a1 t206 _ A17.out).mono ?_); rintro e w' ⟨rfl, ⟨nd, rfl⟩⟩; refine ⟨_, rfl, ?_⟩))
              go_roundg k3
              case measure => have := HJ2.out; have := HK2.out; have := HK3.out; omega
              case rel => exact ⟨(t206), (wrap64 (x7_3 - 1)), rs_, rs_, H', ⟨by have := HJ2.out; have := HK2.out; have := HK3.out; omega⟩, by repeat (first | exact Drawn0.refl _ | apply Drawn0.step)⟩
def spec_l3Zero.f  : Option (Int × Int × Bool) := some (0, 0, true)
set_option maxHeartbeats 8000000 in
set_option maxRecDepth 100000 in
theorem spec_l3Zero.calls  (r1 : Int) (r2 : Int) (r3 : Bool) (w : World) (h : spec_l3Zero.f  = some (r1, r2, r3)) :
    Calls Tryz.prog 63 #[] w fun e w' => e = .returned (.agg #[.int .u64 r1, .int .u64 r2, .bool r3]) ∧ Below w.heap.size w w' := by
  have hu27 := Tryz.underlying27
  have HB := Aside0.mk (Below.refl w.heap.size w)
  have H : (some (0, 0, true)) = some (r1, r2, r3) := h
  clear h
  simp only [Option.some.injEq, Prod.mk.injEq] at H
  obtain ⟨rfl, rfl, rfl⟩ := H
  go_enter Tryz.func63, Tryz.ntmps63
  go_wp2_with (first | ((with_reducible refine gate_dst (N := 0) rfl ?_); refine box_event ?hg (N := 0) ?hd (cs := #[.int .u64 0, .int .u64 0, .bool false]) (t := 27) ?hr ?_; (case hd => rfl); (case hg => rfl); (case hr => first | (go_simp; done) | (go_simp; rfl)); intro gb216 hg w1 hbox hb; have n0_ := Aside0.mk (below_step hb_ hb); have n1_ := Aside0.mk (hbox); have n2_ := Aside0.mk ((by rw [hg]; exact (below_size hb_) : w.heap.size ≤ gb216)); have n3_ := Aside0.mk ((by rw [hg]; exact (below_size hb_) : w.heap.size ≤ gb216)); clear HB; have HB := n0_; have BK216 := n1_; have GW216 := n2_; have GE216 := n3_; clear n0_ n1_ n2_ n3_; clear hb hbox hg; have hcz2_0 : w1.cell? ⟨gb216, 0, none⟩ = some (.int .u64 0) := (blk_cell BK216.out 0).trans rfl; have hcz2_1 : w1.cell? ⟨gb216, 1, none⟩ = some (.int .u64 0) := (blk_cell BK216.out 1).trans rfl; have hcz2_2 : w1.cell? ⟨gb216, 2, none⟩ = some (.bool false) := (blk_cell BK216.out 2).trans rfl; have hfz2_0 := blk_frozen BK216.out 0; have hfz2_1 := blk_frozen BK216.out 1; have hfz2_2 := blk_frozen BK216.out 2))
  refine bodyPost_ret (results_cell_row rfl _ _ gb216 27 #[.int .u64 0, .int .u64 0, .bool true] (0, 0) _ rfl (by (with_reducible repeat (first | refine blk_drewN ?_ _ | refine blk_drew ?_ | refine blk_alloc ?_ _)); refine blk_put (cs := #[.int .u64 0, .int .u64 0, .bool false]) ?_ 2 _ rfl; (with_reducible repeat (first | refine blk_drewN ?_ _ | refine blk_drew ?_ | refine blk_alloc ?_ _)); refine blk_put (cs := #[.int .u64 0, .int .u64 0, .bool false]) ?_ 1 _ rfl; (with_reducible repeat (first | refine blk_drewN ?_ _ | refine blk_drew ?_ | refine blk_alloc ?_ _)); refine blk_put (cs := #[.int .u64 0, .int .u64 0, .bool false]) ?_ 0 _ rfl; (with_reducible repeat (first | refine blk_drewN ?_ _ | refine blk_drew ?_ | refine blk_alloc ?_ _)); exact BK216.out) Tryz.underlying27 rfl (by kernel_rfl)) rfl ?_
  exact ⟨by first | rfl | (simp [errW_none, errW_some] <;> rfl) | (simp [*, errW_none, errW_some] <;> rfl), by repeat (first | (with_reducible first | exact HB.out | apply below_alloc | apply pw_below_drewN | apply below_drew1 | refine below_set ?_ GE216.out) | exact HB.out)⟩

def spec_MulMod.l0 : Nat → Int → Int → Int → Int → Int → Option (Int)
  | 0, _, _, _, _, _ => none
  | k + 1, x0, x1, x2, x7, x8 => if x8 ≥ 0 then ((spec_l2Add.f x7 x7 x2).bind fun t218 => (if 0 ≤ (IntKind.u64.wrap (x8)) then (if (Int.tmod (shr .u64 x1 (IntKind.u64.wrap (x8))) 2) = 1 then ((spec_l2Add.f t218 x0 x2).bind fun t219 => (spec_MulMod.l0 k x0 x1 x2 t219 (wrap64 (x8 - 1)))) else (spec_MulMod.l0 k x0 x1 x2 t218 (wrap64 (x8 - 1)))) else (none))) else (some x7)
def spec_MulMod.f (k : Nat) (a0 : Int) (a1 : Int) (a2 : Int) : Option (Int) := if a2 = 0 then (some 0) else (if a2 = 2305843009213693951 then ((spec_l2Times.f (Int.tmod a0 a2) (Int.tmod a1 a2)).bind fun t217 => (some t217)) else (spec_MulMod.l0 k (Int.tmod a0 a2) (Int.tmod a1 a2) a2 0 63))
theorem spec_MulMod.mono_l : ∀ k, (∀ y0 y1 y2 y3 y4, LeO (spec_MulMod.l0 k y0 y1 y2 y3 y4) (spec_MulMod.l0 (k + 1) y0 y1 y2 y3 y4))
  | 0 => fun _ _ _ _ _ r h => by simp [spec_MulMod.l0] at h
  | k + 1 => by
    have ih0 := spec_MulMod.mono_l k
    · intro y0 y1 y2 y3 y4
      unfold spec_MulMod.l0
      repeat' first
      | (with_reducible exact ih0 _ _ _ _ _)
      | (with_reducible exact LeO.refl _)
      | (with_reducible exact LeO.none _)
      | (with_reducible refine LeO.ite ?_ ?_)
      | (with_reducible refine LeO.bind ?_ (fun _ => ?_))
      | exact ih0 _ _ _ _ _
      | exact LeO.none _
      | refine LeO.ite ?_ ?_
      | refine LeO.bind ?_ (fun _ => ?_)
theorem spec_MulMod.mono : ∀ a0 a1 a2 k, LeO (spec_MulMod.f k a0 a1 a2) (spec_MulMod.f (k + 1) a0 a1 a2) := by
  intro a0 a1 a2 k
  have ih0 := spec_MulMod.mono_l k
  unfold spec_MulMod.f
  repeat' first
      | (with_reducible exact ih0 _ _ _ _ _)
      | (with_reducible exact LeO.refl _)
      | (with_reducible exact LeO.none _)
      | (with_reducible refine LeO.ite ?_ ?_)
      | (with_reducible refine LeO.bind ?_ (fun _ => ?_))
      | exact ih0 _ _ _ _ _
      | exact LeO.none _
      | refine LeO.ite ?_ ?_
      | refine LeO.bind ?_ (fun _ => ?_)
set_option maxHeartbeats 8000000 in
set_option maxRecDepth 100000 in
theorem spec_MulMod.calls (k : Nat) (a0 : Int) (a1 : Int) (a2 : Int) (r : Int) (w : World) (h : spec_MulMod.f k a0 a1 a2 = some r) :
    Calls Tryz.prog 56 #[.int .u64 a0, .int .u64 a1, .int .u64 a2] w fun e w' => e = .returned (.int .u64 r) ∧ Drawn0 w w' := by
  have H : (if a2 = 0 then (some 0) else (if a2 = 2305843009213693951 then ((spec_l2Times.f (Int.tmod a0 a2) (Int.tmod a1 a2)).bind fun t217 => (some t217)) else (spec_MulMod.l0 k (Int.tmod a0 a2) (Int.tmod a1 a2) a2 0 63))) = some r := h
  clear h
  by_cases c4 : a2 = 0
  · rw [if_pos c4] at H
    have c4b0 : (a2 == 0) = true := beq_iff_eq.mpr c4
    have c4b1 : (a2 != 0) = false := bne_eq_false_iff_eq.mpr c4
    clear c4
    obtain rfl := Option.some.inj H
    go_enter Tryz.func56, Tryz.ntmps56
    go_wp2
    go_ret
    exact ⟨by first | rfl | (simp; done) | (simp [*]; done), by repeat (first | exact Drawn0.refl _ | apply Drawn0.step)⟩
  rw [if_neg c4] at H
  have c4b0 : (a2 == 0) = false := beq_eq_false_iff_ne.mpr c4
  have c4b1 : (a2 != 0) = true := bne_iff_ne.mpr c4
  by_cases c5 : a2 = 2305843009213693951
  · rw [if_pos c5] at H
    have c5b0 : (a2 == 2305843009213693951) = true := beq_iff_eq.mpr c5
    have c5b1 : (a2 != 2305843009213693951) = false := bne_eq_false_iff_eq.mpr c5
    clear c5
    replace H := Option.bind_eq_some_iff.mp H
    obtain ⟨t217, A60, H⟩ := H
    replace H : (some t217) = some r := H
    have A6 := Aside0.mk A60
    clear A60
    obtain rfl := Option.some.inj H
    go_enter Tryz.func56, Tryz.ntmps56
    go_wp2_with (first | ((with_reducible refine gate_callee (f := 107) rfl ?_); refine goesL_ (some 21) rfl rfl Tryz.func107 (by kernel_rfl) rfl #[.int .u64 (Int.tmod a0 a2), .int .u64 (Int.tmod a1 a2)] rfl ga_ ?_; (with_reducible refine (spec_l2Times.calls (Int.tmod a0 a2) (Int.tmod a1 a2) t217 _ A6.out).mono ?_); rintro e w' ⟨rfl, ⟨nd, rfl⟩⟩; refine ⟨_, rfl, ?_⟩))
    go_ret
    exact ⟨by first | rfl | (simp; done) | (simp [*]; done), by repeat (first | exact Drawn0.refl _ | apply Drawn0.step)⟩
  rw [if_neg c5] at H
  have c5b0 : (a2 == 2305843009213693951) = false := beq_eq_false_iff_ne.mpr c5
  have c5b1 : (a2 != 2305843009213693951) = true := bne_iff_ne.mpr c5
  have H' := Aside0.mk H
  clear H
  go_enter Tryz.func56, Tryz.ntmps56
  go_wp2
  go_loopg [7, 8] k (fun kq v7 v8 w' => ∃ (x7_1 : Int) (x8_1 : Int), v7 = .int .u64 x7_1 ∧ v8 = .int .i64 x8_1 ∧ Aside0 (spec_MulMod.l0 kq (Int.tmod a0 a2) (Int.tmod a1 a2) a2 x7_1 x8_1 = some r) ∧ Aside0 (kq ≤ k) ∧ Drawn0 w w')
  case atStart => exact ⟨(0), (63), rs_, rs_, H', ⟨Nat.le_refl _⟩, by repeat (first | exact Drawn0.refl _ | apply Drawn0.step)⟩
  case round =>
    clear H'
    try clear c1
    try clear p2
    try clear c4
    try clear c4b0
    try clear c4b1
    try clear c5
    try clear c5b0
    try clear c5b1
    obtain ⟨x7_1, x8_1, rfl, rfl, HA, HK1, ⟨m1, rfl⟩⟩ := hrel
    cases gk with
    | zero => exact absurd HA.out (by simp [spec_MulMod.l0])
    | succ k1 =>
      have H := HA.out
      clear HA
      simp only [spec_MulMod.l0] at H
      by_cases c7 : x8_1 ≥ 0
      rotate_left
      · rw [if_neg c7] at H
        have c7b0 := decide_eq_false c7
        clear c7
        obtain rfl := Option.some.inj H
        go_wp2
        go_ret
        exact ⟨by first | rfl | (simp; done) | (simp [*]; done), by repeat (first | exact Drawn0.refl _ | apply Drawn0.step)⟩

      rw [if_pos c7] at H
      have c7b0 := decide_eq_true c7
      clear c7
      replace H := Option.bind_eq_some_iff.mp H
      obtain ⟨t218, A80, H⟩ := H
      try dsimp only at H
      have A8 := Aside0.mk A80
      clear A80
      obtain ⟨ji9, hji9⟩ : ∃ j_ : Int, (IntKind.u64.wrap (x8_1)) = j_ := ⟨_, rfl⟩
      replace H : (if 0 ≤ (ji9) then (if (Int.tmod (shr .u64 (Int.tmod a1 a2) (ji9)) 2) = 1 then ((spec_l2Add.f t218 (Int.tmod a0 a2) a2).bind fun t219 => (spec_MulMod.l0 k1 (Int.tmod a0 a2) (Int.tmod a1 a2) a2 t219 (wrap64 (x8_1 - 1)))) else (spec_MulMod.l0 k1 (Int.tmod a0 a2) (Int.tmod a1 a2) a2 t218 (wrap64 (x8_1 - 1)))) else (none)) = some r := by first | (rw [hji9] at H; exact H) | (simp only [hji9] at H ⊢; exact H)
      (try rw [hji9] at A8)
      by_cases c10 : 0 ≤ (ji9)
      rotate_left
      · rw [if_neg c10] at H
        exact absurd H (by simp)
      rw [if_pos c10] at H
      have c10b0 := eq_true c10
      have c10b1 := decide_eq_true c10
      clear c10
      obtain ⟨ji11, hji11⟩ : ∃ j_ : Int, (shr .u64 (Int.tmod a1 a2) (ji9)) = j_ := ⟨_, rfl⟩
      replace H : (if (Int.tmod (ji11) 2) = 1 then ((spec_l2Add.f t218 (Int.tmod a0 a2) a2).bind fun t219 => (spec_MulMod.l0 k1 (Int.tmod a0 a2) (Int.tmod a1 a2) a2 t219 (wrap64 (x8_1 - 1)))) else (spec_MulMod.l0 k1 (Int.tmod a0 a2) (Int.tmod a1 a2) a2 t218 (wrap64 (x8_1 - 1)))) = some r := by first | (rw [hji11] at H; exact H) | (simp only [hji11] at H ⊢; exact H)
      (try rw [hji11] at A8)
      have hji11_ : ((Int.tmod a1 a2) / 2 ^ min (ji9).toNat 64) = ji11 := hji11
      have hji11z : (ji9) ≤ 64 → ((Int.tmod a1 a2) / 2 ^ (ji9).toNat) = ji11 := shr_small hji11
      by_cases c12 : (Int.tmod (ji11) 2) = 1
      rotate_left
      · rw [if_neg c12] at H
        have c12b0 : ((Int.tmod (ji11) 2) == 1) = false := beq_eq_false_iff_ne.mpr c12
        have c12b1 : ((Int.tmod (ji11) 2) != 1) = true := bne_iff_ne.mpr c12
        have H' := Aside0.mk H
        clear H
        go_wp2_with (first | ((with_reducible refine gate_callee (f := 57) rfl ?_); refine goesL_ (some 29) rfl rfl Tryz.func57 (by kernel_rfl) rfl #[.int .u64 x7_1, .int .u64 x7_1, .int .u64 a2] rfl ga_ ?_; (with_reducible refine (spec_l2Add.calls x7_1 x7_1 a2 t218 _ A8.out).mono ?_); rintro e w' ⟨rfl, ⟨nd, rfl⟩⟩; refine ⟨_, rfl, ?_⟩))
        go_roundg k1
        case measure => have := HK1.out; omega
        case rel => exact ⟨(t218), (wrap64 (x8_1 - 1)), rs_, rs_, H', ⟨by have := HK1.out; omega⟩, by repeat (first | exact Drawn0.refl _ | apply Drawn0.step)⟩
      rw [if_pos c12] at H
      have c12b0 : ((Int.tmod (ji11) 2) == 1) = true := beq_iff_eq.mpr c12
      have c12b1 : ((Int.tmod (ji11) 2) != 1) = false := bne_eq_false_iff_eq.mpr c12
      clear c12
      replace H := Option.bind_eq_some_iff.mp H
      obtain ⟨t219, A130, H⟩ := H
      try dsimp only at H
      have A13 := Aside0.mk A130
      clear A130
      have H' := Aside0.mk H
      clear H
      go_wp2_with (first | ((with_reducible refine gate_callee (f := 57) rfl ?_); refine goesL_ (some 29) rfl rfl Tryz.func57 (by kernel_rfl) rfl #[.int .u64 x7_1, .int .u64 x7_1, .int .u64 a2] rfl ga_ ?_; (with_reducible refine (spec_l2Add.calls x7_1 x7_1 a2 t218 _ A8.out).mono ?_); rintro e w' ⟨rfl, ⟨nd, rfl⟩⟩; refine ⟨_, rfl, ?_⟩) | ((with_reducible refine gate_callee (f := 57) rfl ?_); refine goesL_ (some 39) rfl rfl Tryz.func57 (by kernel_rfl) rfl #[.int .u64 t218, .int .u64 (Int.tmod a0 a2), .int .u64 a2] rfl ga_ ?_; (with_reducible refine (spec_l2Add.calls t218 (Int.tmod a0 a2) a2 t219 _ A13.out).mono ?_); rintro e w' ⟨rfl, ⟨nd, rfl⟩⟩; refine ⟨_, rfl, ?_⟩))
      go_roundg k1
      case measure => have := HK1.out; omega
      case rel => exact ⟨(t219), (wrap64 (x8_1 - 1)), rs_, rs_, H', ⟨by have := HK1.out; omega⟩, by repeat (first | exact Drawn0.refl _ | apply Drawn0.step)⟩
end Go.Proofs.YtgdcafbdkidamaaGreatDoor.B
end
section
namespace Go.Proofs.YtgdcafbdkidamaaGreatDoor.B
open Go.Proofs.YtgdcafbdkidamaaGreatDoor.Sq Go.RowKit Go.Proofs.YtgdcafbdkidamaaGreatDoor.H0 Go.Proofs.YtgdcafbdkidamaaGreatDoor.F0 Go.Proofs.YtgdcafbdkidamaaGreatDoorW.PrintWords Go.Proofs.YtgdcafbdkidamaaGreatDoorW.PrintLast Go.Proofs.YtgdcafbdkidamaaGreatDoorW.PrintMore
attribute [local go_sem high] field_num_fieldP   -- for this text's walks alone
attribute [local go_sem] max2_int min2_int max_two min_two max_three min_three max_four min_four   -- for this text's walks alone
set_option linter.unusedVariables false
set_option linter.unusedSimpArgs false
def spec_PowMod.l0 : Nat → Int → Int → Int → Int → Int → Option (Int)
  | 0, _, _, _, _, _ => none
  | k + 1, x0, x1, x2, x7, x8 => if x8 ≥ 0 then ((spec_MulMod.f k x7 x7 x2).bind fun t220 => (if 0 ≤ (IntKind.u64.wrap (x8)) then (if (Int.tmod (shr .u64 x1 (IntKind.u64.wrap (x8))) 2) = 1 then ((spec_MulMod.f k t220 x0 x2).bind fun t221 => (spec_PowMod.l0 k x0 x1 x2 t221 (wrap64 (x8 - 1)))) else (spec_PowMod.l0 k x0 x1 x2 t220 (wrap64 (x8 - 1)))) else (none))) else (some x7)
def spec_PowMod.f (k : Nat) (a0 : Int) (a1 : Int) (a2 : Int) : Option (Int) := if a2 = 0 then (some 0) else (spec_PowMod.l0 k a0 a1 a2 ((1 : Int) % a2) 63)
theorem spec_PowMod.mono_l : ∀ k, (∀ y0 y1 y2 y3 y4, LeO (spec_PowMod.l0 k y0 y1 y2 y3 y4) (spec_PowMod.l0 (k + 1) y0 y1 y2 y3 y4))
  | 0 => fun _ _ _ _ _ r h => by simp [spec_PowMod.l0] at h
  | k + 1 => by
    have ih0 := spec_PowMod.mono_l k
    · intro y0 y1 y2 y3 y4
      unfold spec_PowMod.l0
      repeat' first
      | (with_reducible exact ih0 _ _ _ _ _)
      | (with_reducible exact spec_MulMod.mono _ _ _ _)
      | (with_reducible exact LeO.refl _)
      | (with_reducible exact LeO.none _)
      | (with_reducible refine LeO.ite ?_ ?_)
      | (with_reducible refine LeO.bind ?_ (fun _ => ?_))
      | exact ih0 _ _ _ _ _
      | exact spec_MulMod.mono _ _ _ _
      | exact LeO.none _
      | refine LeO.ite ?_ ?_
      | refine LeO.bind ?_ (fun _ => ?_)
theorem spec_PowMod.mono : ∀ a0 a1 a2 k, LeO (spec_PowMod.f k a0 a1 a2) (spec_PowMod.f (k + 1) a0 a1 a2) := by
  intro a0 a1 a2 k
  have ih0 := spec_PowMod.mono_l k
  unfold spec_PowMod.f
  repeat' first
      | (with_reducible exact ih0 _ _ _ _ _)
      | (with_reducible exact spec_MulMod.mono _ _ _ _)
      | (with_reducible exact LeO.refl _)
      | (with_reducible exact LeO.none _)
      | (with_reducible refine LeO.ite ?_ ?_)
      | (with_reducible refine LeO.bind ?_ (fun _ => ?_))
      | exact ih0 _ _ _ _ _
      | exact spec_MulMod.mono _ _ _ _
      | exact LeO.none _
      | refine LeO.ite ?_ ?_
      | refine LeO.bind ?_ (fun _ => ?_)
set_option maxHeartbeats 8000000 in
set_option maxRecDepth 100000 in
theorem spec_PowMod.calls (k : Nat) (a0 : Int) (a1 : Int) (a2 : Int) (r : Int) (w : World) (h : spec_PowMod.f k a0 a1 a2 = some r) :
    Calls Tryz.prog 142 #[.int .u64 a0, .int .u64 a1, .int .u64 a2] w fun e w' => e = .returned (.int .u64 r) ∧ Drawn0 w w' := by
  have H : (if a2 = 0 then (some 0) else (spec_PowMod.l0 k a0 a1 a2 ((1 : Int) % a2) 63)) = some r := h
  clear h
  by_cases c4 : a2 = 0
  · rw [if_pos c4] at H
    have c4b0 : (a2 == 0) = true := beq_iff_eq.mpr c4
    have c4b1 : (a2 != 0) = false := bne_eq_false_iff_eq.mpr c4
    clear c4
    obtain rfl := Option.some.inj H
    go_enter Tryz.func142, Tryz.ntmps142
    go_wp2
    go_ret
    exact ⟨by first | rfl | (simp; done) | (simp [*]; done), by repeat (first | exact Drawn0.refl _ | apply Drawn0.step)⟩
  rw [if_neg c4] at H
  have c4b0 : (a2 == 0) = false := beq_eq_false_iff_ne.mpr c4
  have c4b1 : (a2 != 0) = true := bne_iff_ne.mpr c4
  have H' := Aside0.mk H
  clear H
  go_enter Tryz.func142, Tryz.ntmps142
  go_wp2
  go_loopg [7, 8] k (fun kq v7 v8 w' => ∃ (x7_1 : Int) (x8_1 : Int), v7 = .int .u64 x7_1 ∧ v8 = .int .i64 x8_1 ∧ Aside0 (spec_PowMod.l0 kq a0 a1 a2 x7_1 x8_1 = some r) ∧ Aside0 (kq ≤ k) ∧ Drawn0 w w')
  case atStart => exact ⟨((1 : Int) % a2), (63), rs_, rs_, H', ⟨Nat.le_refl _⟩, by repeat (first | exact Drawn0.refl _ | apply Drawn0.step)⟩
  case round =>
    clear H'
    try clear c1
    try clear p2
    try clear c4
    try clear c4b0
    try clear c4b1
    obtain ⟨x7_1, x8_1, rfl, rfl, HA, HK1, ⟨m1, rfl⟩⟩ := hrel
    cases gk with
    | zero => exact absurd HA.out (by simp [spec_PowMod.l0])
    | succ k1 =>
      have H := HA.out
      clear HA
      simp only [spec_PowMod.l0] at H
      by_cases c5 : x8_1 ≥ 0
      rotate_left
      · rw [if_neg c5] at H
        have c5b0 := decide_eq_false c5
        clear c5
        obtain rfl := Option.some.inj H
        go_wp2
        go_ret
        exact ⟨by first | rfl | (simp; done) | (simp [*]; done), by repeat (first | exact Drawn0.refl _ | apply Drawn0.step)⟩

      rw [if_pos c5] at H
      have c5b0 := decide_eq_true c5
      clear c5
      replace H := Option.bind_eq_some_iff.mp H
      obtain ⟨t220, A60, H⟩ := H
      try dsimp only at H
      have A6 := Aside0.mk A60
      clear A60
      obtain ⟨ji7, hji7⟩ : ∃ j_ : Int, (IntKind.u64.wrap (x8_1)) = j_ := ⟨_, rfl⟩
      replace H : (if 0 ≤ (ji7) then (if (Int.tmod (shr .u64 a1 (ji7)) 2) = 1 then ((spec_MulMod.f k1 t220 a0 a2).bind fun t221 => (spec_PowMod.l0 k1 a0 a1 a2 t221 (wrap64 (x8_1 - 1)))) else (spec_PowMod.l0 k1 a0 a1 a2 t220 (wrap64 (x8_1 - 1)))) else (none)) = some r := by first | (rw [hji7] at H; exact H) | (simp only [hji7] at H ⊢; exact H)
      (try rw [hji7] at A6)
      by_cases c8 : 0 ≤ (ji7)
      rotate_left
      · rw [if_neg c8] at H
        exact absurd H (by simp)
      rw [if_pos c8] at H
      have c8b0 := eq_true c8
      have c8b1 := decide_eq_true c8
      clear c8
      obtain ⟨ji9, hji9⟩ : ∃ j_ : Int, (shr .u64 a1 (ji7)) = j_ := ⟨_, rfl⟩
      replace H : (if (Int.tmod (ji9) 2) = 1 then ((spec_MulMod.f k1 t220 a0 a2).bind fun t221 => (spec_PowMod.l0 k1 a0 a1 a2 t221 (wrap64 (x8_1 - 1)))) else (spec_PowMod.l0 k1 a0 a1 a2 t220 (wrap64 (x8_1 - 1)))) = some r := by first | (rw [hji9] at H; exact H) | (simp only [hji9] at H ⊢; exact H)
      (try rw [hji9] at A6)
      have hji9_ : (a1 / 2 ^ min (ji7).toNat 64) = ji9 := hji9
      have hji9z : (ji7) ≤ 64 → (a1 / 2 ^ (ji7).toNat) = ji9 := shr_small hji9
      by_cases c10 : (Int.tmod (ji9) 2) = 1
      rotate_left
      · rw [if_neg c10] at H
        have c10b0 : ((Int.tmod (ji9) 2) == 1) = false := beq_eq_false_iff_ne.mpr c10
        have c10b1 : ((Int.tmod (ji9) 2) != 1) = true := bne_iff_ne.mpr c10
        have H' := Aside0.mk H
        clear H
        go_wp2_with (first | ((with_reducible refine gate_callee (f := 56) rfl ?_); refine goesL_ (some 20) rfl rfl Tryz.func56 (by kernel_rfl) rfl #[.int .u64 x7_1, .int .u64 x7_1, .int .u64 a2] rfl ga_ ?_; (with_reducible refine (spec_MulMod.calls k1 x7_1 x7_1 a2 t220 _ A6.out).mono ?_); rintro e w' ⟨rfl, ⟨nd, rfl⟩⟩; refine ⟨_, rfl, ?_⟩))
        go_roundg k1
        case measure => have := HK1.out; omega
        case rel => exact ⟨(t220), (wrap64 (x8_1 - 1)), rs_, rs_, H', ⟨by have := HK1.out; omega⟩, by repeat (first | exact Drawn0.refl _ | apply Drawn0.step)⟩
      rw [if_pos c10] at H
      have c10b0 : ((Int.tmod (ji9) 2) == 1) = true := beq_iff_eq.mpr c10
      have c10b1 : ((Int.tmod (ji9) 2) != 1) = false := bne_eq_false_iff_eq.mpr c10
      clear c10
      replace H := Option.bind_eq_some_iff.mp H
      obtain ⟨t221, A110, H⟩ := H
      try dsimp only at H
      have A11 := Aside0.mk A110
      clear A110
      have H' := Aside0.mk H
      clear H
      go_wp2_with (first | ((with_reducible refine gate_callee (f := 56) rfl ?_); refine goesL_ (some 20) rfl rfl Tryz.func56 (by kernel_rfl) rfl #[.int .u64 x7_1, .int .u64 x7_1, .int .u64 a2] rfl ga_ ?_; (with_reducible refine (spec_MulMod.calls k1 x7_1 x7_1 a2 t220 _ A6.out).mono ?_); rintro e w' ⟨rfl, ⟨nd, rfl⟩⟩; refine ⟨_, rfl, ?_⟩) | ((with_reducible refine gate_callee (f := 56) rfl ?_); refine goesL_ (some 30) rfl rfl Tryz.func56 (by kernel_rfl) rfl #[.int .u64 t220, .int .u64 a0, .int .u64 a2] rfl ga_ ?_; (with_reducible refine (spec_MulMod.calls k1 t220 a0 a2 t221 _ A11.out).mono ?_); rintro e w' ⟨rfl, ⟨nd, rfl⟩⟩; refine ⟨_, rfl, ?_⟩))
      go_roundg k1
      case measure => have := HK1.out; omega
      case rel => exact ⟨(t221), (wrap64 (x8_1 - 1)), rs_, rs_, H', ⟨by have := HK1.out; omega⟩, by repeat (first | exact Drawn0.refl _ | apply Drawn0.step)⟩
def spec_InvMod.f (k : Nat) (a0 : Int) (a1 : Int) : Option (Int) := if a1 < 2 then (some 0) else ((spec_PowMod.f k a0 (IntKind.u64.wrap (a1 - 2)) a1).bind fun t222 => (some t222))
theorem spec_InvMod.mono : ∀ a0 a1 k, LeO (spec_InvMod.f k a0 a1) (spec_InvMod.f (k + 1) a0 a1) := by
  intro a0 a1 k
  unfold spec_InvMod.f
  repeat' first
      | (with_reducible exact spec_PowMod.mono _ _ _ _)
      | (with_reducible exact LeO.refl _)
      | (with_reducible exact LeO.none _)
      | (with_reducible refine LeO.ite ?_ ?_)
      | (with_reducible refine LeO.bind ?_ (fun _ => ?_))
      | exact spec_PowMod.mono _ _ _ _
      | exact LeO.none _
      | refine LeO.ite ?_ ?_
      | refine LeO.bind ?_ (fun _ => ?_)
set_option maxHeartbeats 8000000 in
set_option maxRecDepth 100000 in
theorem spec_InvMod.calls (k : Nat) (a0 : Int) (a1 : Int) (r : Int) (w : World) (h : spec_InvMod.f k a0 a1 = some r) :
    Calls Tryz.prog 113 #[.int .u64 a0, .int .u64 a1] w fun e w' => e = .returned (.int .u64 r) ∧ Drawn0 w w' := by
  have H : (if a1 < 2 then (some 0) else ((spec_PowMod.f k a0 (IntKind.u64.wrap (a1 - 2)) a1).bind fun t222 => (some t222))) = some r := h
  clear h
  by_cases c3 : a1 < 2
  · rw [if_pos c3] at H
    have c3b0 := decide_eq_true c3
    clear c3
    obtain rfl := Option.some.inj H
    go_enter Tryz.func113, Tryz.ntmps113
    go_wp2
    go_ret
    exact ⟨by first | rfl | (simp; done) | (simp [*]; done), by repeat (first | exact Drawn0.refl _ | apply Drawn0.step)⟩
  rw [if_neg c3] at H
  have c3b0 := decide_eq_false c3
  clear c3
  replace H := Option.bind_eq_some_iff.mp H
  obtain ⟨t222, A40, H⟩ := H
  replace H : (some t222) = some r := H
  have A4 := Aside0.mk A40
  clear A40
  obtain rfl := Option.some.inj H
  go_enter Tryz.func113, Tryz.ntmps113
  go_wp2_with (first | ((with_reducible refine gate_callee (f := 142) rfl ?_); refine goesL_ (some 11) rfl rfl Tryz.func142 (by kernel_rfl) rfl #[.int .u64 a0, .int .u64 (IntKind.u64.wrap (a1 - 2)), .int .u64 a1] rfl ga_ ?_; (with_reducible refine (spec_PowMod.calls k a0 (IntKind.u64.wrap (a1 - 2)) a1 t222 _ A4.out).mono ?_); rintro e w' ⟨rfl, ⟨nd, rfl⟩⟩; refine ⟨_, rfl, ?_⟩))
  go_ret
  exact ⟨by first | rfl | (simp; done) | (simp [*]; done), by repeat (first | exact Drawn0.refl _ | apply Drawn0.step)⟩

end Go.Proofs.YtgdcafbdkidamaaGreatDoor.B
end
section
namespace Go.Proofs.YtgdcafbdkidamaaGreatDoor.B
open Go.Proofs.YtgdcafbdkidamaaGreatDoor.Sq Go.RowKit Go.Proofs.YtgdcafbdkidamaaGreatDoor.H0 Go.Proofs.YtgdcafbdkidamaaGreatDoor.F0 Go.Proofs.YtgdcafbdkidamaaGreatDoorW.PrintWords Go.Proofs.YtgdcafbdkidamaaGreatDoorW.PrintLast Go.Proofs.YtgdcafbdkidamaaGreatDoorW.PrintMore Go.Proofs.YtgdcafbdkidamaaGreatDoor.Ve Go.Proofs.YtgdcafbdkidamaaGreatDoor.VeT Go.Proofs.YtgdcafbdkidamaaGreatDoor.VeE
attribute [local go_sem high] field_num_fieldP   -- for this text's walks alone
attribute [local go_sem] max2_int min2_int max_two min_two max_three min_three max_four min_four   -- for this text's walks alone
set_option linter.unusedVariables false
set_option linter.unusedSimpArgs false
def spec_l3Sum.j0 : Nat → Int → Int → Int → Int → Bool → Int → Int → Bool → Option (Int × Int × Bool)
  | 0, _, _, _, _, _, _, _, _ => none
  | k + 1, x5, x6, x224000, x224001, x224002, x225000, x225001, x225002 => (spec_InvMod.f k x6 2305843009213693951).bind fun t236 => ((spec_l2Times.f x5 t236).bind fun t237 => ((spec_l2Times.f t237 t237).bind fun t238 => ((spec_l3Minus.f t238 x224000).bind fun t239 => ((spec_l3Minus.f t239 x225000).bind fun t240 => ((spec_l3Minus.f x224000 t240).bind fun t241 => ((spec_l2Times.f t237 t241).bind fun t242 => ((spec_l3Minus.f t242 x224001).bind fun t243 => (some (t240, t243, false)))))))))
def spec_l3Sum.f (k : Nat) (a0_0 : Int) (a0_1 : Int) (a0_2 : Bool) (a1_0 : Int) (a1_1 : Int) (a1_2 : Bool) : Option (Int × Int × Bool) := if a0_2 = true then (some (a1_0, a1_1, a1_2)) else (if a1_2 = true then (some (a0_0, a0_1, a0_2)) else ((spec_l3Minus.f a1_1 a0_1).bind fun t226 => ((spec_l3Minus.f a1_0 a0_0).bind fun t227 => (if a0_0 = a1_0 then ((spec_l2Add.f a0_1 a1_1 2305843009213693951).bind fun t228 => (if t228 = 0 then ((spec_l3Zero.f).bind fun bt229 => (some (bt229.1, bt229.2.1, bt229.2.2))) else ((spec_l2Times.f a0_0 a0_0).bind fun t232 => ((spec_l2Times.f 3 t232).bind fun t233 => ((spec_l3Minus.f t233 3).bind fun t234 => ((spec_l2Add.f a0_1 a0_1 2305843009213693951).bind fun t235 => (spec_l3Sum.j0 k t234 t235 a0_0 a0_1 a0_2 a1_0 a1_1 a1_2))))))) else (spec_l3Sum.j0 k t226 t227 a0_0 a0_1 a0_2 a1_0 a1_1 a1_2)))))
theorem spec_l3Sum.mono_l : ∀ k, (∀ y0 y1 y2 y3 y4 y5 y6 y7, LeO (spec_l3Sum.j0 k y0 y1 y2 y3 y4 y5 y6 y7) (spec_l3Sum.j0 (k + 1) y0 y1 y2 y3 y4 y5 y6 y7))
  | 0 => fun _ _ _ _ _ _ _ _ r h => by simp [spec_l3Sum.j0] at h
  | k + 1 => by
    have ih0 := spec_l3Sum.mono_l k
    · intro y0 y1 y2 y3 y4 y5 y6 y7
      unfold spec_l3Sum.j0
      repeat' first
      | (with_reducible exact ih0 _ _ _ _ _ _ _ _)
      | (with_reducible exact spec_InvMod.mono _ _ _)
      | (with_reducible exact LeO.refl _)
      | (with_reducible exact LeO.none _)
      | (with_reducible refine LeO.ite ?_ ?_)
      | (with_reducible refine LeO.bind ?_ (fun _ => ?_))
      | exact ih0 _ _ _ _ _ _ _ _
      | exact spec_InvMod.mono _ _ _
      | exact LeO.none _
      | refine LeO.ite ?_ ?_
      | refine LeO.bind ?_ (fun _ => ?_)
theorem spec_l3Sum.mono : ∀ a0 a1 a2 a3 a4 a5 k, LeO (spec_l3Sum.f k a0 a1 a2 a3 a4 a5) (spec_l3Sum.f (k + 1) a0 a1 a2 a3 a4 a5) := by
  intro a0 a1 a2 a3 a4 a5 k
  have ih0 := spec_l3Sum.mono_l k
  unfold spec_l3Sum.f
  repeat' first
      | (with_reducible exact ih0 _ _ _ _ _ _ _ _)
      | (with_reducible exact spec_InvMod.mono _ _ _)
      | (with_reducible exact LeO.refl _)
      | (with_reducible exact LeO.none _)
      | (with_reducible refine LeO.ite ?_ ?_)
      | (with_reducible refine LeO.bind ?_ (fun _ => ?_))
      | exact ih0 _ _ _ _ _ _ _ _
      | exact spec_InvMod.mono _ _ _
      | exact LeO.none _
      | refine LeO.ite ?_ ?_
      | refine LeO.bind ?_ (fun _ => ?_)
set_option maxRecDepth 100000 in
set_option maxHeartbeats 4000000 in
theorem spec_l3Sum.calls (k : Nat) (a0_0 : Int) (a0_1 : Int) (a0_2 : Bool) (a1_0 : Int) (a1_1 : Int) (a1_2 : Bool) (r1 : Int) (r2 : Int) (r3 : Bool) (w : World) (h : spec_l3Sum.f k a0_0 a0_1 a0_2 a1_0 a1_1 a1_2 = some (r1, r2, r3)) :
    Calls Tryz.prog 61 #[.agg #[.int .u64 a0_0, .int .u64 a0_1, .bool a0_2], .agg #[.int .u64 a1_0, .int .u64 a1_1, .bool a1_2]] w fun e w' => e = .returned (.agg #[.int .u64 r1, .int .u64 r2, .bool r3]) ∧ Below w.heap.size w w' := by
  unfold spec_l3Sum.f at h
  all_goals rcases k with _ | k
  repeat' (first | (rw [Option.bind_eq_some_iff] at h; obtain ⟨_, _, h⟩ := h) | (split at h) | (rw [spec_l3Sum.j0] at h) | (cases h <;> fail) | (replace h := Option.some.inj h) | (have h3_ := (Prod.mk.inj h).1; replace h := (Prod.mk.inj h).2; subst h3_) | (subst h))
  all_goals try contradiction
  all_goals refine ve_fn (args := [.agg #[.int .u64 a0_0, .int .u64 a0_1, .bool a0_2], .agg #[.int .u64 a1_0, .int .u64 a1_1, .bool a1_2]]) Tryz.func61 rfl Tryz.ntmps61 rfl (good (Γ := fun _ => True) (fun _ _ => trivial)) ?_
  all_goals repeat' (first | refine rbt ?_ | refine rbf ?_ | refine wn ?_ | refine wq ?_ | refine wc_plain ?_ | refine wc_draw ?_ | refine rZ ?_ | refine rD ?_ | refine ve8 ?_ | refine ve4 ?_ | refine ve3 ?_ | refine ve1 ?_ | refine ve2 ?_ | refine ve5 ?_ | refine ve6 ?_ | refine ve7 ?_ | refine ve9 ?_ | refine rA ?_ | refine rE ?_ | refine rC ?_ | refine rB ?_ | refine rG ?_ | refine rH ?_ | refine rI ?_ | refine rJ ?_ | refine rcb ?_ | refine rcp (Pre := spec_InvMod.f _ _ _ = some _) (fun hp_ w_ hΓ => drb (spec_InvMod.calls _ _ _ _ w_ hp_)) ?_ | refine rcp (Pre := spec_l2Times.f _ _ = some _) (fun hp_ w_ hΓ => drb (spec_l2Times.calls _ _ _ w_ hp_)) ?_ | refine rcp (Pre := spec_l3Minus.f _ _ = some _) (fun hp_ w_ hΓ => drb (spec_l3Minus.calls _ _ _ w_ hp_)) ?_ | refine rcp (Pre := spec_l2Add.f _ _ _ = some _) (fun hp_ w_ hΓ => drb (spec_l2Add.calls _ _ _ _ w_ hp_)) ?_ | refine rc (fun w_ hΓ => spec_l3Zero.calls _ _ _ w_ (by assumption)) ?_ | refine rel (fun w_ hΓ => ld_zero (by first  |  exact hΓ.z  |  exact hΓ.1.z  |  exact hΓ.1  |  exact hΓ)) ?_  |  refine req (fun w_ => eq_pt w_) ?_  |  refine req (fun w_ => ne_pt w_) ?_  |  refine req (fun w_ => eq_num w_) ?_  |  refine rsh ?_  |  refine rsl_ ?_  |  refine rslh ?_ | refine wb ?_ | refine wk ?_ | refine we ?_ | exact wt | refine wr ?_ | refine rr1 ?_ | refine rr2 ?_ | exact fr | exact fe | refine wTs ?_ | refine wFs ?_ | refine rof ?_ | refine rof0 ?_)

end Go.Proofs.YtgdcafbdkidamaaGreatDoor.B
end
section
namespace Go.Proofs.YtgdcafbdkidamaaGreatDoor.B
open Go.Proofs.YtgdcafbdkidamaaGreatDoor.Sq Go.RowKit Go.Proofs.YtgdcafbdkidamaaGreatDoor.H0 Go.Proofs.YtgdcafbdkidamaaGreatDoor.F0 Go.Proofs.YtgdcafbdkidamaaGreatDoorW.PrintWords Go.Proofs.YtgdcafbdkidamaaGreatDoorW.PrintLast Go.Proofs.YtgdcafbdkidamaaGreatDoorW.PrintMore Go.Proofs.YtgdcafbdkidamaaGreatDoor.Ve Go.Proofs.YtgdcafbdkidamaaGreatDoor.VeT Go.Proofs.YtgdcafbdkidamaaGreatDoor.VeE
attribute [local go_sem high] field_num_fieldP   -- for this text's walks alone
attribute [local go_sem] max2_int min2_int max_two min_two max_three min_three max_four min_four   -- for this text's walks alone
set_option linter.unusedVariables false
set_option linter.unusedSimpArgs false
mutual
def impl_Reduce.j0 : Nat → ByteArray → Int → Bool → Option (Int)
  | 0, _, _, _ => none
  | k + 1, x0, x1, x13 => if x13 = true then (some 0) else (impl_Reduce.l0 k x0 x1 0 (x0.size : Int) 0)
def impl_Reduce.l0 : Nat → ByteArray → Int → Int → Int → Int → Option (Int)
  | 0, _, _, _, _, _ => none
  | k + 1, x0, x1, x5, x15, x16 => if x16 < x15 then (if 0 ≤ x16 then (if x16 < (x0.size : Int) then ((bits_Div64.f k (x5 / 72057594037927936) (Go.bits .or .u64 (IntKind.u64.wrap (x5 * 256)) (IntKind.u64.wrap (bt x0 x16))) x1).bind fun bt332 => (impl_Reduce.l0 k x0 x1 bt332.2 x15 (wrap64 (x16 + 1)))) else (none)) else (none)) else (some x5)
end
def impl_Reduce.f (k : Nat) (a0 : ByteArray) (a1 : Int) : Option (Int) := if a1 = 0 then (impl_Reduce.j0 k a0 a1 true) else (impl_Reduce.j0 k a0 a1 (decide ((a0.size : Int) > 65535)))
set_option maxHeartbeats 8000000 in
set_option maxRecDepth 100000 in
theorem impl_Reduce.calls (k : Nat) (a0 : ByteArray) (a1 : Int) (r : Int) (w : World) (h : impl_Reduce.f k a0 a1 = some r) :
    Calls Tryz.prog 164 #[.string a0, .int .u64 a1] w fun e w' => e = .returned (.int .u64 r) ∧ Drawn0 w w' := by
  have H : (if a1 = 0 then (impl_Reduce.j0 k a0 a1 true) else (impl_Reduce.j0 k a0 a1 (decide ((a0.size : Int) > 65535)))) = some r := h
  clear h
  have HC3 := Aside0.mk H
  clear H
  go_enter Tryz.func164, Tryz.ntmps164
  go_upto_region 1 with (fail)
  go_cut [13] (fun v13 wc => ∃ (kq : Nat) (x13_2 : Bool), v13 = .bool x13_2 ∧ Aside0 (impl_Reduce.j0 kq a0 a1 x13_2 = some r) ∧ Aside0 (kq ≤ k) ∧ Drawn0 w wc)
  case first =>
    have H := HC3.out
    clear HC3
    by_cases c4 : a1 = 0
    · rw [if_pos c4] at H
      have c4b0 : (a1 == 0) = true := beq_iff_eq.mpr c4
      have c4b1 : (a1 != 0) = false := bne_eq_false_iff_eq.mpr c4
      clear c4
      (first | rw [c4b0] | (simp only [i64_w, i32_w]; rw [c4b0]) | skip)
      have H' := Aside0.mk H
      clear H
      go_wp2
      go_meet
      case rel => exact ⟨_, (true), rs_, H', ⟨by first | omega | exact Nat.le_refl _⟩, by repeat (first | exact Drawn0.refl _ | apply Drawn0.step)⟩
    rw [if_neg c4] at H
    have c4b0 : (a1 == 0) = false := beq_eq_false_iff_ne.mpr c4
    have c4b1 : (a1 != 0) = true := bne_iff_ne.mpr c4
    (first | rw [c4b0] | (simp only [i64_w, i32_w]; rw [c4b0]) | skip)
    have H' := Aside0.mk H
    clear H
    go_wp2
    go_meet
    case rel => exact ⟨_, (decide ((a0.size : Int) > 65535)), rs_, H', ⟨by first | omega | exact Nat.le_refl _⟩, by repeat (first | exact Drawn0.refl _ | apply Drawn0.step)⟩
  case rest =>
    clear HC3
    try clear c1
    try clear p2
    try clear c4
    try clear c4b0
    try clear c4b1
    obtain ⟨kq, x13_2, rfl, HA, HJ2, ⟨mc2, rfl⟩⟩ := hcut
    cases kq with
    | zero => exact absurd HA.out (by simp [impl_Reduce.j0])
    | succ kj2 =>
      have H := HA.out
      clear HA
      simp only [impl_Reduce.j0] at H
      by_cases c5 : x13_2 = true
      · subst c5
        have H1 : (some 0) = some r := by rw [if_pos rfl] at H; exact H
        clear H
        have H := H1
        clear H1
        obtain rfl := Option.some.inj H
        go_wp2
        go_ret
        exact ⟨by first | rfl | (simp; done) | (simp [*]; done), by repeat (first | exact Drawn0.refl _ | apply Drawn0.step)⟩
      replace c5 := Bool.eq_false_iff.mpr c5
      subst c5
      have H1 : (impl_Reduce.l0 kj2 a0 a1 0 (a0.size : Int) 0) = some r := by rw [if_neg (show ¬ (false = true) by decide)] at H; exact H
      clear H
      have H := H1
      clear H1
      have H' := Aside0.mk H
      clear H
      go_wp2
      go_loopg [5, 16] kj2 (fun kq v5 v16 w' => ∃ (x5_2 : Int) (x16_2 : Int), v5 = .int .u64 x5_2 ∧ v16 = .int .i64 x16_2 ∧ Aside0 (impl_Reduce.l0 kq a0 a1 x5_2 (a0.size : Int) x16_2 = some r) ∧ Aside0 (kq ≤ kj2) ∧ Drawn0 w w')
      case atStart => exact ⟨(0), (0), rs_, rs_, H', ⟨Nat.le_refl _⟩, by repeat (first | exact Drawn0.refl _ | apply Drawn0.step)⟩
      case round =>
        clear H'
        try clear c1
        try clear c2
        try clear p2
        try clear c4
        try clear c4b0
        try clear c4b1
        try clear c5
        try clear p2
        obtain ⟨x5_2, x16_2, rfl, rfl, HA, HK2, ⟨m2, rfl⟩⟩ := hrel
        cases gk with
        | zero => exact absurd HA.out (by simp [impl_Reduce.l0])
        | succ k2 =>
          have H := HA.out
          clear HA
          simp only [impl_Reduce.l0] at H
          by_cases c6 : x16_2 < (a0.size : Int)
          rotate_left
          · rw [if_neg c6] at H
            have c6b0 := decide_eq_false c6
            clear c6
            obtain rfl := Option.some.inj H
            go_wp2
            go_ret
            exact ⟨by first | rfl | (simp; done) | (simp [*]; done), by repeat (first | exact Drawn0.refl _ | apply Drawn0.step)⟩

          rw [if_pos c6] at H
          have c6b0 := decide_eq_true c6
          clear c6
          by_cases c7 : 0 ≤ x16_2
          rotate_left
          · rw [if_neg c7] at H
            exact absurd H (by simp)
          rw [if_pos c7] at H
          have c7b0 := decide_eq_true c7
          clear c7
          by_cases c8 : x16_2 < (a0.size : Int)
          rotate_left
          · rw [if_neg c8] at H
            exact absurd H (by simp)
          rw [if_pos c8] at H
          have c8b0 := decide_eq_true c8
          clear c8
          replace H := Option.bind_eq_some_iff.mp H
          obtain ⟨⟨t332, t333⟩, A100, H⟩ := H
          try dsimp only at H
          have A10 := Aside0.mk A100
          clear A100
          have H' := Aside0.mk H
          clear H
          have p9 : 0 ≤ (x16_2 : Int) := of_decide_eq_true as_
          have q9 : x16_2 < (a0.size : Int) := of_decide_eq_true as_
          have hx9 := bt_at a0 x16_2
          replace p9 := eq_true p9
          replace q9 := eq_true q9
          go_wp2_with (first | ((with_reducible refine gate_callee (f := 141) rfl ?_); refine goesL_ (some 30) rfl rfl Tryz.func141 (by kernel_rfl) rfl #[.int .u64 (x5_2 / 72057594037927936), .int .u64 (Go.bits .or .u64 (IntKind.u64.wrap (x5_2 * 256)) (IntKind.u64.wrap (bt a0 x16_2))), .int .u64 a1] rfl ga_ ?_; (with_reducible refine (bits_Div64.calls k2 (x5_2 / 72057594037927936) (Go.bits .or .u64 (IntKind.u64.wrap (x5_2 * 256)) (IntKind.u64.wrap (bt a0 x16_2))) a1 t332 t333 _ A10.out).mono ?_); rintro e w' ⟨rfl, ⟨nd, rfl⟩⟩; refine ⟨_, rfl, ?_⟩))
          go_roundg k2
          case measure => have := HJ2.out; have := HK2.out; omega
          case rel => exact ⟨(t333), (wrap64 (x16_2 + 1)), rs_, rs_, H', ⟨by have := HJ2.out; have := HK2.out; omega⟩, by repeat (first | exact Drawn0.refl _ | apply Drawn0.step)⟩
def impl_onCurve_spatial.f (a0_0 : Int) (a0_1 : Int) (a0_2 : Bool) : Option (Int × Int × Int) := if a0_2 = true then (some (1, 1, 0)) else (some (a0_0, a0_1, 1))
set_option maxRecDepth 100000 in
set_option maxHeartbeats 4000000 in
theorem impl_onCurve_spatial.calls (a0_0 : Int) (a0_1 : Int) (a0_2 : Bool) (r1 : Int) (r2 : Int) (r3 : Int) (w : World) (h : impl_onCurve_spatial.f a0_0 a0_1 a0_2 = some (r1, r2, r3)) :
    Calls Tryz.prog 68 #[.agg #[.int .u64 a0_0, .int .u64 a0_1, .bool a0_2]] w fun e w' => e = .returned (.agg #[.int .u64 r1, .int .u64 r2, .int .u64 r3]) ∧ Below w.heap.size w w' := by
  unfold impl_onCurve_spatial.f at h
  repeat' (first | (rw [Option.bind_eq_some_iff] at h; obtain ⟨_, _, h⟩ := h) | (split at h) | (cases h <;> fail) | (replace h := Option.some.inj h) | (have h3_ := (Prod.mk.inj h).1; replace h := (Prod.mk.inj h).2; subst h3_) | (subst h))
  all_goals try contradiction
  all_goals refine ve_fn (args := [.agg #[.int .u64 a0_0, .int .u64 a0_1, .bool a0_2]]) Tryz.func68 rfl Tryz.ntmps68 rfl (good (Γ := fun _ => True) (fun _ _ => trivial)) ?_
  all_goals repeat' (first | refine rbt ?_ | refine rbf ?_ | refine wn ?_ | refine wq ?_ | refine wc_plain ?_ | refine wc_draw ?_ | refine rZ ?_ | refine rD ?_ | refine ve8 ?_ | refine ve4 ?_ | refine ve3 ?_ | refine ve1 ?_ | refine ve2 ?_ | refine ve5 ?_ | refine ve6 ?_ | refine ve7 ?_ | refine ve9 ?_ | refine rA ?_ | refine rE ?_ | refine rC ?_ | refine rB ?_ | refine rG ?_ | refine rH ?_ | refine rI ?_ | refine rJ ?_ | refine rcb ?_ | refine rel (fun w_ hΓ => ld_zero (by first  |  exact hΓ.z  |  exact hΓ.1.z  |  exact hΓ.1  |  exact hΓ)) ?_  |  refine req (fun w_ => eq_pt w_) ?_  |  refine req (fun w_ => ne_pt w_) ?_  |  refine req (fun w_ => eq_num w_) ?_  |  refine rsh ?_  |  refine rsl_ ?_  |  refine rslh ?_ | refine wb ?_ | refine wk ?_ | refine we ?_ | exact wt | refine wr ?_ | refine rr1 ?_ | refine rr2 ?_ | exact fr | exact fe | refine wTs ?_ | refine wFs ?_ | refine rof ?_ | refine rof0 ?_)

def impl_numOf_impl_fieldP.f (a0 : Int) : Option (Int) := (impl_prime_impl_fieldP.f).bind fun t394 => (if t394 = 0 then (none) else (some (Int.tmod a0 t394)))
set_option maxHeartbeats 8000000 in
set_option maxRecDepth 100000 in
theorem impl_numOf_impl_fieldP.calls (a0 : Int) (r : Int) (w : World) (h : impl_numOf_impl_fieldP.f a0 = some r) :
    Calls Tryz.prog 160 #[.int .u64 a0] w fun e w' => e = .returned (.agg #[.int .u64 r]) ∧ Below w.heap.size w w' := by
  have hu101 := Tryz.underlying101
  have HB := Aside0.mk (Below.refl w.heap.size w)
  have H : ((impl_prime_impl_fieldP.f).bind fun t394 => (if t394 = 0 then (none) else (some (Int.tmod a0 t394)))) = some r := h
  clear h
  replace H := Option.bind_eq_some_iff.mp H
  obtain ⟨t394, A20, H⟩ := H
  try dsimp only at H
  have A2 := Aside0.mk A20
  clear A20
  by_cases c3 : t394 = 0
  · rw [if_pos c3] at H
    exact absurd H (by simp)
  rw [if_neg c3] at H
  have c3b0 : (t394 == 0) = false := beq_eq_false_iff_ne.mpr c3
  have c3b1 : (t394 != 0) = true := bne_iff_ne.mpr c3
  obtain rfl := Option.some.inj H
  go_enter Tryz.func160, Tryz.ntmps160
  go_wp2_with (first | ((with_reducible refine gate_dst (N := 2) rfl ?_); refine box_event ?hg (N := 2) ?hd (cs := #[.int .u64 0]) (t := 101) ?hr ?_; (case hd => rfl); (case hg => rfl); (case hr => first | (go_simp; done) | (go_simp; rfl)); intro gb393 hg w4 hbox hb; have n0_ := Aside0.mk (below_step hb_ hb); have n1_ := Aside0.mk (hbox); have n2_ := Aside0.mk ((by rw [hg]; exact (below_size hb_) : w.heap.size ≤ gb393)); have n3_ := Aside0.mk ((by rw [hg]; exact (below_size hb_) : w.heap.size ≤ gb393)); clear HB; have HB := n0_; have BK393 := n1_; have GW393 := n2_; have GE393 := n3_; clear n0_ n1_ n2_ n3_; clear hb hbox hg) | ((with_reducible refine gate_callee (f := 143) rfl ?_); refine goesL_ (some 4) rfl rfl Tryz.func143 (by kernel_rfl) rfl #[] rfl ga_ ?_; (with_reducible refine (impl_prime_impl_fieldP.calls  t394 _ A2.out).mono ?_); rintro e w5 ⟨rfl, hb⟩; refine ⟨_, rfl, ?_⟩; have n0_ := Aside0.mk (blk_below (g := gb393) (o := .cells #[.int .u64 0] 101 (0, 0)) (by (with_reducible repeat (first | refine blk_drewN ?_ _ | refine blk_drew ?_ | refine blk_alloc ?_ _)); exact BK393.out) hb); have n1_ := Aside0.mk (below_step (by repeat (first | (with_reducible first | exact HB.out | apply below_alloc | apply pw_below_drewN | apply below_drew1 | refine below_set ?_ GE393.out) | exact HB.out)) hb); clear BK393; clear HB; have BK393 := n0_; have HB := n1_; clear n0_ n1_; (try clear hb); (try clear hb2); (try clear hk); (try clear hi); have hcz6_0 : w5.cell? ⟨gb393, 0, none⟩ = some (.int .u64 0) := (blk_cell BK393.out 0).trans rfl; have hfz6_0 := blk_frozen BK393.out 0))
  refine bodyPost_ret (results_cell_row rfl _ _ gb393 101 #[.int .u64 (Int.tmod a0 t394)] (0, 0) _ rfl (by (with_reducible repeat (first | refine blk_drewN ?_ _ | refine blk_drew ?_ | refine blk_alloc ?_ _)); refine blk_put (cs := #[.int .u64 0]) ?_ 0 _ rfl; (with_reducible repeat (first | refine blk_drewN ?_ _ | refine blk_drew ?_ | refine blk_alloc ?_ _)); exact BK393.out) Tryz.underlying101 rfl (by kernel_rfl)) rfl ?_
  exact ⟨by first | rfl | (simp [errW_none, errW_some] <;> rfl) | (simp [*, errW_none, errW_some] <;> rfl), by repeat (first | (with_reducible first | exact HB.out | apply below_alloc | apply pw_below_drewN | apply below_drew1 | refine below_set ?_ GE393.out) | exact HB.out)⟩

end Go.Proofs.YtgdcafbdkidamaaGreatDoor.B
end
section
namespace Go.Proofs.YtgdcafbdkidamaaGreatDoor.B
open Go.Proofs.YtgdcafbdkidamaaGreatDoor.Sq Go.RowKit Go.Proofs.YtgdcafbdkidamaaGreatDoor.H0 Go.Proofs.YtgdcafbdkidamaaGreatDoor.F0 Go.Proofs.YtgdcafbdkidamaaGreatDoorW.PrintWords Go.Proofs.YtgdcafbdkidamaaGreatDoorW.PrintLast Go.Proofs.YtgdcafbdkidamaaGreatDoorW.PrintMore Go.Proofs.YtgdcafbdkidamaaGreatDoor.Ve Go.Proofs.YtgdcafbdkidamaaGreatDoor.VeT Go.Proofs.YtgdcafbdkidamaaGreatDoor.VeE
attribute [local go_sem high] field_num_fieldP   -- for this text's walks alone
attribute [local go_sem] max2_int min2_int max_two min_two max_three min_three max_four min_four   -- for this text's walks alone
set_option linter.unusedVariables false
set_option linter.unusedSimpArgs false
def spec_Base.f  : Option (Int × Int × Bool) := some (1, 509478702933351334, false)
set_option maxRecDepth 100000 in
set_option maxHeartbeats 4000000 in
theorem spec_Base.calls  (r1 : Int) (r2 : Int) (r3 : Bool) (w : World) (h : spec_Base.f  = some (r1, r2, r3)) :
    Calls Tryz.prog 25 #[] w fun e w' => e = .returned (.agg #[.int .u64 r1, .int .u64 r2, .bool r3]) ∧ Below w.heap.size w w' := by
  unfold spec_Base.f at h
  repeat' (first | (rw [Option.bind_eq_some_iff] at h; obtain ⟨_, _, h⟩ := h) | (split at h) | (cases h <;> fail) | (replace h := Option.some.inj h) | (have h3_ := (Prod.mk.inj h).1; replace h := (Prod.mk.inj h).2; subst h3_) | (subst h))
  all_goals try contradiction
  all_goals refine ve_fn (args := []) Tryz.func25 rfl Tryz.ntmps25 rfl (good (Γ := fun _ => True) (fun _ _ => trivial)) ?_
  all_goals repeat' (first | refine rbt ?_ | refine rbf ?_ | refine wn ?_ | refine wq ?_ | refine wc_plain ?_ | refine wc_draw ?_ | refine rZ ?_ | refine rD ?_ | refine ve8 ?_ | refine ve4 ?_ | refine ve3 ?_ | refine ve1 ?_ | refine ve2 ?_ | refine ve5 ?_ | refine ve6 ?_ | refine ve7 ?_ | refine ve9 ?_ | refine rA ?_ | refine rE ?_ | refine rC ?_ | refine rB ?_ | refine rG ?_ | refine rH ?_ | refine rI ?_ | refine rJ ?_ | refine rcb ?_ | refine rel (fun w_ hΓ => ld_zero (by first  |  exact hΓ.z  |  exact hΓ.1.z  |  exact hΓ.1  |  exact hΓ)) ?_  |  refine req (fun w_ => eq_pt w_) ?_  |  refine req (fun w_ => ne_pt w_) ?_  |  refine req (fun w_ => eq_num w_) ?_  |  refine rsh ?_  |  refine rsl_ ?_  |  refine rslh ?_ | refine wb ?_ | refine wk ?_ | refine we ?_ | exact wt | refine wr ?_ | refine rr1 ?_ | refine rr2 ?_ | exact fr | exact fe | refine wTs ?_ | refine wFs ?_ | refine rof ?_ | refine rof0 ?_)

end Go.Proofs.YtgdcafbdkidamaaGreatDoor.B
end
section
namespace Go.Proofs.YtgdcafbdkidamaaGreatDoor.C
open Go.Proofs.YtgdcafbdkidamaaGreatDoor.Sq Go.RowKit Go.Proofs.YtgdcafbdkidamaaGreatDoor.B Go.Proofs.YtgdcafbdkidamaaGreatDoor.H0 Go.Proofs.YtgdcafbdkidamaaGreatDoor.G1 Go.Proofs.YtgdcafbdkidamaaGreatDoor.F0 Go.Proofs.YtgdcafbdkidamaaGreatDoorW.PrintWords Go.Proofs.YtgdcafbdkidamaaGreatDoorW.PrintLast Go.Proofs.YtgdcafbdkidamaaGreatDoorW.PrintMore Go.Proofs.YtgdcafbdkidamaaGreatDoor.Ve Go.Proofs.YtgdcafbdkidamaaGreatDoor.VeT Go.Proofs.YtgdcafbdkidamaaGreatDoor.VeE
attribute [local go_sem high] field_num_fieldP   -- for this text's walks alone
attribute [local go_sem] max2_int min2_int max_two min_two max_three min_three max_four min_four   -- for this text's walks alone
set_option linter.unusedVariables false
set_option linter.unusedSimpArgs false
attribute [local go_sem high] eqA27 eqA101
def impl_at.j0 : Nat → Bool → Int → Int → Bool → Int → Int → Bool → Option (Int × Int × Bool × Bool)
  | 0, _, _, _, _, _, _, _ => none
  | k + 1, x19, x81000, x81001, x81002, x169000, x169001, x169002 => if x19 = true then (some (x81000, x81001, x81002, false)) else ((impl_num_impl_fieldP_times.f k x169001 x169001).bind fun t171 => ((impl_curveAt.f k x169000).bind fun t172 => (some (x169000, x169001, x169002, (t171 == t172)))))
def impl_at.f (k : Nat) (a0_0 : Int) (a0_1 : Int) (a0_2 : Bool) : Option (Int × Int × Bool × Bool) := if a0_2 = true then (some (a0_0, a0_1, a0_2, (a0_0 == 0 && (a0_1 == 0 && (a0_2))))) else (if a0_0 ≥ 2305843009213693951 then (impl_at.j0 k true 0 0 true a0_0 a0_1 a0_2) else (impl_at.j0 k (decide (a0_1 ≥ 2305843009213693951)) 0 0 true a0_0 a0_1 a0_2))
set_option maxRecDepth 100000 in
set_option maxHeartbeats 4000000 in
theorem impl_at.calls (k : Nat) (a0_0 : Int) (a0_1 : Int) (a0_2 : Bool) (r1 : Int) (r2 : Int) (r3 : Bool) (r4 : Bool) (w : World) (hG : G w) (h : impl_at.f k a0_0 a0_1 a0_2 = some (r1, r2, r3, r4)) :
    Calls Tryz.prog 67 #[.agg #[.int .u64 a0_0, .int .u64 a0_1, .bool a0_2]] w fun e w' => e = .returned (.tuple #[.agg #[.int .u64 r1, .int .u64 r2, .bool r3], .bool r4]) ∧ Below w.heap.size w w' := by
  unfold impl_at.f at h
  all_goals rcases k with _ | k
  repeat' (first | (rw [Option.bind_eq_some_iff] at h; obtain ⟨_, _, h⟩ := h) | (split at h) | (rw [impl_at.j0] at h) | (cases h <;> fail) | (replace h := Option.some.inj h) | (have h3_ := (Prod.mk.inj h).1; replace h := (Prod.mk.inj h).2; subst h3_) | (subst h))
  all_goals try contradiction
  all_goals refine ve_fn (args := [.agg #[.int .u64 a0_0, .int .u64 a0_1, .bool a0_2]]) Tryz.func67 rfl Tryz.ntmps67 rfl (good (Γ := fun W => G W) (fun W hb => G_below hb hG)) ?_
  all_goals repeat' (first | refine rbt ?_ | refine rbf ?_ | refine wn ?_ | refine wq ?_ | refine wc_plain ?_ | refine wc_draw ?_ | refine rZ ?_ | refine rD ?_ | refine ve8 ?_ | refine ve4 ?_ | refine ve3 ?_ | refine ve1 ?_ | refine ve2 ?_ | refine ve5 ?_ | refine ve6 ?_ | refine ve7 ?_ | refine ve9 ?_ | refine rA ?_ | refine rE ?_ | refine rC ?_ | refine rB ?_ | refine rG ?_ | refine rH ?_ | refine rI ?_ | refine rJ ?_ | refine rcb ?_ | refine rcp (Pre := impl_num_impl_fieldP_times.f _ _ _ = some _) (fun hp_ w_ hΓ => impl_num_impl_fieldP_times.calls _ _ _ _ w_ hp_) ?_ | refine rcp (Pre := impl_curveAt.f _ _ = some _) (fun hp_ w_ hΓ => impl_curveAt.calls _ _ _ w_ hp_) ?_ | refine rel (fun w_ hΓ => ld_zero (by first  |  exact hΓ.z  |  exact hΓ.1.z  |  exact hΓ.1  |  exact hΓ)) ?_  |  refine req (fun w_ => eq_pt w_) ?_  |  refine req (fun w_ => ne_pt w_) ?_  |  refine req (fun w_ => eq_num w_) ?_  |  refine rsh ?_  |  refine rsl_ ?_  |  refine rslh ?_ | refine wb ?_ | refine wk ?_ | refine we ?_ | exact wt | refine wr ?_ | refine rr1 ?_ | refine rr2 ?_ | exact fr | exact fe | refine wTs ?_ | refine wFs ?_ | refine rof ?_ | refine rof0 ?_)

end Go.Proofs.YtgdcafbdkidamaaGreatDoor.C
end
section
namespace Go.Proofs.YtgdcafbdkidamaaGreatDoor.B
open Go.Proofs.YtgdcafbdkidamaaGreatDoor.Sq Go.RowKit Go.Proofs.YtgdcafbdkidamaaGreatDoor.H0 Go.Proofs.YtgdcafbdkidamaaGreatDoor.F0 Go.Proofs.YtgdcafbdkidamaaGreatDoorW.PrintWords Go.Proofs.YtgdcafbdkidamaaGreatDoorW.PrintLast Go.Proofs.YtgdcafbdkidamaaGreatDoorW.PrintMore Go.Proofs.YtgdcafbdkidamaaGreatDoor.Ve Go.Proofs.YtgdcafbdkidamaaGreatDoor.VeT Go.Proofs.YtgdcafbdkidamaaGreatDoor.VeE
attribute [local go_sem high] field_num_fieldP   -- for this text's walks alone
attribute [local go_sem] max2_int min2_int max_two min_two max_three min_three max_four min_four   -- for this text's walks alone
set_option linter.unusedVariables false
set_option linter.unusedSimpArgs false
def spec_l1Take.j0 : Nat → List Int → Int → Int → Bool → Option (Int × Int)
  | 0, _, _, _, _ => none
  | k + 1, x0, x1, x2, x17 => if x17 = true then (some (0, wrap64 (x1 + 1))) else (if x1 < (x0.length : Int) then (if x2 ≤ 256 then (if 0 ≤ x1 then (if x2 = 0 then (none) else (some (Int.tmod (wrap64 (rd x0 x1)) x2, wrap64 (x1 + 1)))) else (none)) else (if (x0.length : Int) = 0 then (none) else (if 0 ≤ (Int.tmod x1 (x0.length : Int)) then (if (Int.tmod x1 (x0.length : Int)) < (x0.length : Int) then (if 0 ≤ (Int.tmod (wrap64 ((wrap64 (x1 * 7)) + 3)) (x0.length : Int)) then (if (Int.tmod (wrap64 ((wrap64 (x1 * 7)) + 3)) (x0.length : Int)) < (x0.length : Int) then (if x2 = 0 then (none) else (some (Int.tmod (Go.bits .xor .i64 (wrap64 ((wrap64 ((wrap64 ((wrap64 ((wrap64 (rd x0 (Int.tmod x1 (x0.length : Int)))) * 131)) + (wrap64 ((wrap64 (rd x0 (Int.tmod (wrap64 ((wrap64 (x1 * 7)) + 3)) (x0.length : Int)))) * 1117)))) + (wrap64 (x1 * 29)))) + (wrap64 ((wrap64 (Int.tdiv x1 (x0.length : Int))) * 53)))) (wrap64 (Int.tdiv (wrap64 ((wrap64 ((wrap64 ((wrap64 ((wrap64 (rd x0 (Int.tmod x1 (x0.length : Int)))) * 131)) + (wrap64 ((wrap64 (rd x0 (Int.tmod (wrap64 ((wrap64 (x1 * 7)) + 3)) (x0.length : Int)))) * 1117)))) + (wrap64 (x1 * 29)))) + (wrap64 ((wrap64 (Int.tdiv x1 (x0.length : Int))) * 53)))) 64))) x2, wrap64 (x1 + 1)))) else (none)) else (none)) else (none)) else (none)))) else (if (x0.length : Int) = 0 then (none) else (if 0 ≤ (Int.tmod x1 (x0.length : Int)) then (if (Int.tmod x1 (x0.length : Int)) < (x0.length : Int) then (if 0 ≤ (Int.tmod (wrap64 ((wrap64 (x1 * 7)) + 3)) (x0.length : Int)) then (if (Int.tmod (wrap64 ((wrap64 (x1 * 7)) + 3)) (x0.length : Int)) < (x0.length : Int) then (if x2 = 0 then (none) else (some (Int.tmod (Go.bits .xor .i64 (wrap64 ((wrap64 ((wrap64 ((wrap64 ((wrap64 (rd x0 (Int.tmod x1 (x0.length : Int)))) * 131)) + (wrap64 ((wrap64 (rd x0 (Int.tmod (wrap64 ((wrap64 (x1 * 7)) + 3)) (x0.length : Int)))) * 1117)))) + (wrap64 (x1 * 29)))) + (wrap64 ((wrap64 (Int.tdiv x1 (x0.length : Int))) * 53)))) (wrap64 (Int.tdiv (wrap64 ((wrap64 ((wrap64 ((wrap64 ((wrap64 (rd x0 (Int.tmod x1 (x0.length : Int)))) * 131)) + (wrap64 ((wrap64 (rd x0 (Int.tmod (wrap64 ((wrap64 (x1 * 7)) + 3)) (x0.length : Int)))) * 1117)))) + (wrap64 (x1 * 29)))) + (wrap64 ((wrap64 (Int.tdiv x1 (x0.length : Int))) * 53)))) 64))) x2, wrap64 (x1 + 1)))) else (none)) else (none)) else (none)) else (none))))
def spec_l1Take.f (k : Nat) (l0 : List Int) (a1 : Int) (a2 : Int) : Option (Int × Int) := if a2 < 1 then (spec_l1Take.j0 k l0 a1 a2 true) else (spec_l1Take.j0 k l0 a1 a2 ((l0.length : Int) == 0))
theorem spec_l1Take.mono_l : ∀ k, (∀ y0 y1 y2 y3, LeO (spec_l1Take.j0 k y0 y1 y2 y3) (spec_l1Take.j0 (k + 1) y0 y1 y2 y3))
  | 0 => fun _ _ _ _ r h => by simp [spec_l1Take.j0] at h
  | k + 1 => by
    have ih0 := spec_l1Take.mono_l k
    · intro y0 y1 y2 y3
      unfold spec_l1Take.j0
      repeat' first
      | (with_reducible exact ih0 _ _ _ _)
      | (with_reducible exact LeO.refl _)
      | (with_reducible exact LeO.none _)
      | (with_reducible refine LeO.ite ?_ ?_)
      | (with_reducible refine LeO.bind ?_ (fun _ => ?_))
      | exact ih0 _ _ _ _
      | exact LeO.none _
      | refine LeO.ite ?_ ?_
      | refine LeO.bind ?_ (fun _ => ?_)
theorem spec_l1Take.mono : ∀ a0 a1 a2 k, LeO (spec_l1Take.f k a0 a1 a2) (spec_l1Take.f (k + 1) a0 a1 a2) := by
  intro a0 a1 a2 k
  have ih0 := spec_l1Take.mono_l k
  unfold spec_l1Take.f
  repeat' first
      | (with_reducible exact ih0 _ _ _ _)
      | (with_reducible exact LeO.refl _)
      | (with_reducible exact LeO.none _)
      | (with_reducible refine LeO.ite ?_ ?_)
      | (with_reducible refine LeO.bind ?_ (fun _ => ?_))
      | exact ih0 _ _ _ _
      | exact LeO.none _
      | refine LeO.ite ?_ ?_
      | refine LeO.bind ?_ (fun _ => ?_)
set_option maxHeartbeats 8000000 in
set_option maxRecDepth 100000 in
theorem spec_l1Take.calls (k : Nat) (A0 : Option Addr) (c0 : Nat) (l0 : List Int) (a1 : Int) (a2 : Int) (r1 : Int) (r2 : Int) (w : World) (hr0 : Kd.C (Kd.int .u8) w A0 l0.length l0) (hc0 : l0.length ≤ c0) (h : spec_l1Take.f k l0 a1 a2 = some (r1, r2)) :
    Calls Tryz.prog 84 #[.slice A0 l0.length c0, .int .i64 a1, .int .i64 a2] w fun e w' => e = .returned (.tuple #[.int .i64 r1, .int .i64 r2]) ∧ Drawn0 w w' := by
  have HR0 := Aside0.mk hr0
  have HC0 := Aside0.mk hc0
  clear hr0 hc0
  have H : (if a2 < 1 then (spec_l1Take.j0 k l0 a1 a2 true) else (spec_l1Take.j0 k l0 a1 a2 ((l0.length : Int) == 0))) = some (r1, r2) := h
  clear h
  have HC4 := Aside0.mk H
  clear H
  go_enter Tryz.func84, Tryz.ntmps84
  go_upto_region 1 with (fail)
  go_cut [17] (fun v17 wc => ∃ (kq : Nat) (x17_3 : Bool), v17 = .bool x17_3 ∧ Aside0 (spec_l1Take.j0 kq l0 a1 a2 x17_3 = some (r1, r2)) ∧ Aside0 (kq ≤ k) ∧ Drawn0 w wc)
  case first =>
    have H := HC4.out
    clear HC4
    by_cases c5 : a2 < 1
    · rw [if_pos c5] at H
      have c5b0 := decide_eq_true c5
      clear c5
      (first | rw [c5b0] | (simp only [i64_w, i32_w]; rw [c5b0]) | skip)
      have H' := Aside0.mk H
      clear H
      go_wp2
      go_meet
      case rel => exact ⟨_, (true), rs_, H', ⟨by first | omega | exact Nat.le_refl _⟩, by repeat (first | exact Drawn0.refl _ | apply Drawn0.step)⟩
    rw [if_neg c5] at H
    have c5b0 := decide_eq_false c5
    clear c5
    (first | rw [c5b0] | (simp only [i64_w, i32_w]; rw [c5b0]) | skip)
    have H' := Aside0.mk H
    clear H
    go_wp2
    go_meet
    case rel => exact ⟨_, (((l0.length : Int) == 0)), rs_, H', ⟨by first | omega | exact Nat.le_refl _⟩, by repeat (first | exact Drawn0.refl _ | apply Drawn0.step)⟩
  case rest =>
    clear HC4
    try clear p2
    try clear c5
    try clear c5b0
    obtain ⟨kq, x17_3, rfl, HA, HJ3, ⟨mc3, rfl⟩⟩ := hcut
    cases kq with
    | zero => exact absurd HA.out (by simp [spec_l1Take.j0])
    | succ kj3 =>
      have H := HA.out
      clear HA
      simp only [spec_l1Take.j0] at H
      by_cases c6 : x17_3 = true
      · subst c6
        have H1 : (some (0, wrap64 (a1 + 1))) = some (r1, r2) := by rw [if_pos rfl] at H; exact H
        clear H
        have H := H1
        clear H1
        simp only [Option.some.injEq, Prod.mk.injEq] at H
        obtain ⟨rfl, rfl⟩ := H
        go_wp2
        go_ret2
        exact ⟨by first | rfl | (simp; done) | (simp [*]; done), by repeat (first | exact Drawn0.refl _ | apply Drawn0.step)⟩
      replace c6 := Bool.eq_false_iff.mpr c6
      subst c6
      have H1 : (if a1 < (l0.length : Int) then (if a2 ≤ 256 then (if 0 ≤ a1 then (if a2 = 0 then (none) else (some (Int.tmod (wrap64 (rd l0 a1)) a2, wrap64 (a1 + 1)))) else (none)) else (if (l0.length : Int) = 0 then (none) else (if 0 ≤ (Int.tmod a1 (l0.length : Int)) then (if (Int.tmod a1 (l0.length : Int)) < (l0.length : Int) then (if 0 ≤ (Int.tmod (wrap64 ((wrap64 (a1 * 7)) + 3)) (l0.length : Int)) then (if (Int.tmod (wrap64 ((wrap64 (a1 * 7)) + 3)) (l0.length : Int)) < (l0.length : Int) then (if a2 = 0 then (none) else (some (Int.tmod (Go.bits .xor .i64 (wrap64 ((wrap64 ((wrap64 ((wrap64 ((wrap64 (rd l0 (Int.tmod a1 (l0.length : Int)))) * 131)) + (wrap64 ((wrap64 (rd l0 (Int.tmod (wrap64 ((wrap64 (a1 * 7)) + 3)) (l0.length : Int)))) * 1117)))) + (wrap64 (a1 * 29)))) + (wrap64 ((wrap64 (Int.tdiv a1 (l0.length : Int))) * 53)))) (wrap64 (Int.tdiv (wrap64 ((wrap64 ((wrap64 ((wrap64 ((wrap64 (rd l0 (Int.tmod a1 (l0.length : Int)))) * 131)) + (wrap64 ((wrap64 (rd l0 (Int.tmod (wrap64 ((wrap64 (a1 * 7)) + 3)) (l0.length : Int)))) * 1117)))) + (wrap64 (a1 * 29)))) + (wrap64 ((wrap64 (Int.tdiv a1 (l0.length : Int))) * 53)))) 64))) a2, wrap64 (a1 + 1)))) else (none)) else (none)) else (none)) else (none)))) else (if (l0.length : Int) = 0 then (none) else (if 0 ≤ (Int.tmod a1 (l0.length : Int)) then (if (Int.tmod a1 (l0.length : Int)) < (l0.length : Int) then (if 0 ≤ (Int.tmod (wrap64 ((wrap64 (a1 * 7)) + 3)) (l0.length : Int)) then (if (Int.tmod (wrap64 ((wrap64 (a1 * 7)) + 3)) (l0.length : Int)) < (l0.length : Int) then (if a2 = 0 then (none) else (some (Int.tmod (Go.bits .xor .i64 (wrap64 ((wrap64 ((wrap64 ((wrap64 ((wrap64 (rd l0 (Int.tmod a1 (l0.length : Int)))) * 131)) + (wrap64 ((wrap64 (rd l0 (Int.tmod (wrap64 ((wrap64 (a1 * 7)) + 3)) (l0.length : Int)))) * 1117)))) + (wrap64 (a1 * 29)))) + (wrap64 ((wrap64 (Int.tdiv a1 (l0.length : Int))) * 53)))) (wrap64 (Int.tdiv (wrap64 ((wrap64 ((wrap64 ((wrap64 ((wrap64 (rd l0 (Int.tmod a1 (l0.length : Int)))) * 131)) + (wrap64 ((wrap64 (rd l0 (Int.tmod (wrap64 ((wrap64 (a1 * 7)) + 3)) (l0.length : Int)))) * 1117)))) + (wrap64 (a1 * 29)))) + (wrap64 ((wrap64 (Int.tdiv a1 (l0.length : Int))) * 53)))) 64))) a2, wrap64 (a1 + 1)))) else (none)) else (none)) else (none)) else (none)))) = some (r1, r2) := by rw [if_neg (show ¬ (false = true) by decide)] at H; exact H
      clear H
      have H := H1
      clear H1
      by_cases c7 : a1 < (l0.length : Int)
      rotate_left
      · rw [if_neg c7] at H
        have c7b0 := decide_eq_false c7
        clear c7
        by_cases c19 : (l0.length : Int) = 0
        · rw [if_pos c19] at H
          exact absurd H (by simp)
        rw [if_neg c19] at H
        have c19b0 : ((l0.length : Int) == 0) = false := beq_eq_false_iff_ne.mpr c19
        have c19b1 : ((l0.length : Int) != 0) = true := bne_iff_ne.mpr c19
        have c19b2 : ¬ (l0 = []) := fun h_ => c19 (by rw [h_]; rfl)
        obtain ⟨ji20, hji20⟩ : ∃ j_ : Int, (Int.tmod a1 (l0.length : Int)) = j_ := ⟨_, rfl⟩
        replace H : (if 0 ≤ (ji20) then (if (ji20) < (l0.length : Int) then (if 0 ≤ (Int.tmod (wrap64 ((wrap64 (a1 * 7)) + 3)) (l0.length : Int)) then (if (Int.tmod (wrap64 ((wrap64 (a1 * 7)) + 3)) (l0.length : Int)) < (l0.length : Int) then (if a2 = 0 then (none) else (some (Int.tmod (Go.bits .xor .i64 (wrap64 ((wrap64 ((wrap64 ((wrap64 ((wrap64 (rd l0 (ji20))) * 131)) + (wrap64 ((wrap64 (rd l0 (Int.tmod (wrap64 ((wrap64 (a1 * 7)) + 3)) (l0.length : Int)))) * 1117)))) + (wrap64 (a1 * 29)))) + (wrap64 ((wrap64 (Int.tdiv a1 (l0.length : Int))) * 53)))) (wrap64 (Int.tdiv (wrap64 ((wrap64 ((wrap64 ((wrap64 ((wrap64 (rd l0 (ji20))) * 131)) + (wrap64 ((wrap64 (rd l0 (Int.tmod (wrap64 ((wrap64 (a1 * 7)) + 3)) (l0.length : Int)))) * 1117)))) + (wrap64 (a1 * 29)))) + (wrap64 ((wrap64 (Int.tdiv a1 (l0.length : Int))) * 53)))) 64))) a2, wrap64 (a1 + 1)))) else (none)) else (none)) else (none)) else (none)) = some (r1, r2) := by first | (rw [hji20] at H; exact H) | (simp only [hji20] at H ⊢; exact H)
        by_cases c21 : 0 ≤ (ji20)
        rotate_left
        · rw [if_neg c21] at H
          exact absurd H (by simp)

        rw [if_pos c21] at H
        have c21b0 := decide_eq_true c21
        clear c21
        by_cases c22 : (ji20) < (l0.length : Int)
        rotate_left
        · rw [if_neg c22] at H
          exact absurd H (by simp)
        rw [if_pos c22] at H
        have c22b0 := decide_eq_true c22
        clear c22
        obtain ⟨ji23, hji23⟩ : ∃ j_ : Int, (Int.tmod (wrap64 ((wrap64 (a1 * 7)) + 3)) (l0.length : Int)) = j_ := ⟨_, rfl⟩
        replace H : (if 0 ≤ (ji23) then (if (ji23) < (l0.length : Int) then (if a2 = 0 then (none) else (some (Int.tmod (Go.bits .xor .i64 (wrap64 ((wrap64 ((wrap64 ((wrap64 ((wrap64 (rd l0 (ji20))) * 131)) + (wrap64 ((wrap64 (rd l0 (ji23))) * 1117)))) + (wrap64 (a1 * 29)))) + (wrap64 ((wrap64 (Int.tdiv a1 (l0.length : Int))) * 53)))) (wrap64 (Int.tdiv (wrap64 ((wrap64 ((wrap64 ((wrap64 ((wrap64 (rd l0 (ji20))) * 131)) + (wrap64 ((wrap64 (rd l0 (ji23))) * 1117)))) + (wrap64 (a1 * 29)))) + (wrap64 ((wrap64 (Int.tdiv a1 (l0.length : Int))) * 53)))) 64))) a2, wrap64 (a1 + 1)))) else (none)) else (none)) = some (r1, r2) := by first | (rw [hji23] at H; exact H) | (simp only [hji23] at H ⊢; exact H)
        by_cases c24 : 0 ≤ (ji23)
        rotate_left
        · rw [if_neg c24] at H
          exact absurd H (by simp)
        rw [if_pos c24] at H
        have c24b0 := decide_eq_true c24
        clear c24
        by_cases c25 : (ji23) < (l0.length : Int)
        rotate_left
        · rw [if_neg c25] at H
          exact absurd H (by simp)
        rw [if_pos c25] at H
        have c25b0 := decide_eq_true c25
        clear c25
        by_cases c26 : a2 = 0
        · rw [if_pos c26] at H
          exact absurd H (by simp)
        rw [if_neg c26] at H
        have c26b0 : (a2 == 0) = false := beq_eq_false_iff_ne.mpr c26
        have c26b1 : (a2 != 0) = true := bne_iff_ne.mpr c26
        simp only [Option.some.injEq, Prod.mk.injEq] at H
        obtain ⟨rfl, rfl⟩ := H
        have p638 : 0 ≤ ((ji20) : Int) := of_decide_eq_true as_
        have q638 : (ji20) < (l0.length : Int) := of_decide_eq_true as_
        obtain ⟨ad638, e638, hx638_0⟩ := Kd.at_int HR0.out (ji20) p638 q638
        cases e638
        replace p638 := eq_true p638
        replace q638 := eq_true q638
        have p639 : 0 ≤ ((ji23) : Int) := of_decide_eq_true as_
        have q639 : (ji23) < (l0.length : Int) := of_decide_eq_true as_
        obtain ⟨ad639, e639, hx639_0⟩ := Kd.at_int HR0.out (ji23) p639 q639
        obtain rfl : ad638 = ad639 := (by injection e639)
        replace p639 := eq_true p639
        replace q639 := eq_true q639
        go_wp2
        go_ret2
        exact ⟨by first | rfl | (simp; done) | (simp only [← hji20, ← hji23] <;> (first | rfl | simp)) | (simp [*]; done), by repeat (first | exact Drawn0.refl _ | apply Drawn0.step)⟩
      rw [if_pos c7] at H
      have c7b0 := decide_eq_true c7
      clear c7
      by_cases c8 : a2 ≤ 256
      · rw [if_pos c8] at H
        have c8b0 := decide_eq_true c8
        clear c8
        by_cases c9 : 0 ≤ a1
        rotate_left
        · rw [if_neg c9] at H
          exact absurd H (by simp)
        rw [if_pos c9] at H
        have c9b0 := decide_eq_true c9
        clear c9
        by_cases c10 : a2 = 0
        · rw [if_pos c10] at H
          exact absurd H (by simp)
        rw [if_neg c10] at H
        have c10b0 : (a2 == 0) = false := beq_eq_false_iff_ne.mpr c10
        have c10b1 : (a2 != 0) = true := bne_iff_ne.mpr c10
        simp only [Option.some.injEq, Prod.mk.injEq] at H
        obtain ⟨rfl, rfl⟩ := H
        have p635 : 0 ≤ (a1 : Int) := of_decide_eq_true as_
        have q635 : a1 < (l0.length : Int) := of_decide_eq_true as_
        obtain ⟨ad635, e635, hx635_0⟩ := Kd.at_int HR0.out a1 p635 q635
        cases e635
        replace p635 := eq_true p635
        replace q635 := eq_true q635
        go_wp2
        go_ret2
        exact ⟨by first | rfl | (simp; done) | (simp [*]; done), by repeat (first | exact Drawn0.refl _ | apply Drawn0.step)⟩
      rw [if_neg c8] at H
      have c8b0 := decide_eq_false c8
      clear c8
      by_cases c11 : (l0.length : Int) = 0
      · rw [if_pos c11] at H
        exact absurd H (by simp)
      rw [if_neg c11] at H
      have c11b0 : ((l0.length : Int) == 0) = false := beq_eq_false_iff_ne.mpr c11
      have c11b1 : ((l0.length : Int) != 0) = true := bne_iff_ne.mpr c11
      have c11b2 : ¬ (l0 = []) := fun h_ => c11 (by rw [h_]; rfl)
      obtain ⟨ji12, hji12⟩ : ∃ j_ : Int, (Int.tmod a1 (l0.length : Int)) = j_ := ⟨_, rfl⟩
      replace H : (if 0 ≤ (ji12) then (if (ji12) < (l0.length : Int) then (if 0 ≤ (Int.tmod (wrap64 ((wrap64 (a1 * 7)) + 3)) (l0.length : Int)) then (if (Int.tmod (wrap64 ((wrap64 (a1 * 7)) + 3)) (l0.length : Int)) < (l0.length : Int) then (if a2 = 0 then (none) else (some (Int.tmod (Go.bits .xor .i64 (wrap64 ((wrap64 ((wrap64 ((wrap64 ((wrap64 (rd l0 (ji12))) * 131)) + (wrap64 ((wrap64 (rd l0 (Int.tmod (wrap64 ((wrap64 (a1 * 7)) + 3)) (l0.length : Int)))) * 1117)))) + (wrap64 (a1 * 29)))) + (wrap64 ((wrap64 (Int.tdiv a1 (l0.length : Int))) * 53)))) (wrap64 (Int.tdiv (wrap64 ((wrap64 ((wrap64 ((wrap64 ((wrap64 (rd l0 (ji12))) * 131)) + (wrap64 ((wrap64 (rd l0 (Int.tmod (wrap64 ((wrap64 (a1 * 7)) + 3)) (l0.length : Int)))) * 1117)))) + (wrap64 (a1 * 29)))) + (wrap64 ((wrap64 (Int.tdiv a1 (l0.length : Int))) * 53)))) 64))) a2, wrap64 (a1 + 1)))) else (none)) else (none)) else (none)) else (none)) = some (r1, r2) := by first | (rw [hji12] at H; exact H) | (simp only [hji12] at H ⊢; exact H)
      by_cases c13 : 0 ≤ (ji12)
      rotate_left
      · rw [if_neg c13] at H
        exact absurd H (by simp)
      rw [if_pos c13] at H
      have c13b0 := decide_eq_true c13
      clear c13
      by_cases c14 : (ji12) < (l0.length : Int)
      rotate_left
      · rw [if_neg c14] at H
        exact absurd H (by simp)
      rw [if_pos c14] at H
      have c14b0 := decide_eq_true c14
      clear c14
      obtain ⟨ji15, hji15⟩ : ∃ j_ : Int, (Int.tmod (wrap64 ((wrap64 (a1 * 7)) + 3)) (l0.length : Int)) = j_ := ⟨_, rfl⟩
      replace H : (if 0 ≤ (ji15) then (if (ji15) < (l0.length : Int) then (if a2 = 0 then (none) else (some (Int.tmod (Go.bits .xor .i64 (wrap64 ((wrap64 ((wrap64 ((wrap64 ((wrap64 (rd l0 (ji12))) * 131)) + (wrap64 ((wrap64 (rd l0 (ji15))) * 1117)))) + (wrap64 (a1 * 29)))) + (wrap64 ((wrap64 (Int.tdiv a1 (l0.length : Int))) * 53)))) (wrap64 (Int.tdiv (wrap64 ((wrap64 ((wrap64 ((wrap64 ((wrap64 (rd l0 (ji12))) * 131)) + (wrap64 ((wrap64 (rd l0 (ji15))) * 1117)))) + (wrap64 (a1 * 29)))) + (wrap64 ((wrap64 (Int.tdiv a1 (l0.length : Int))) * 53)))) 64))) a2, wrap64 (a1 + 1)))) else (none)) else (none)) = some (r1, r2) := by first | (rw [hji15] at H; exact H) | (simp only [hji15] at H ⊢; exact H)
      by_cases c16 : 0 ≤ (ji15)
      rotate_left
      · rw [if_neg c16] at H
        exact absurd H (by simp)
      rw [if_pos c16] at H
      have c16b0 := decide_eq_true c16
      clear c16
      by_cases c17 : (ji15) < (l0.length : Int)
      rotate_left
      · rw [if_neg c17] at H
        exact absurd H (by simp)
      rw [if_pos c17] at H
      have c17b0 := decide_eq_true c17
      clear c17
      by_cases c18 : a2 = 0
      · rw [if_pos c18] at H
        exact absurd H (by simp)
      rw [if_neg c18] at H
      have c18b0 : (a2 == 0) = false := beq_eq_false_iff_ne.mpr c18
      have c18b1 : (a2 != 0) = true := bne_iff_ne.mpr c18
      simp only [Option.some.injEq, Prod.mk.injEq] at H
      obtain ⟨rfl, rfl⟩ := H
      have p636 : 0 ≤ ((ji12) : Int) := of_decide_eq_true as_
      have q636 : (ji12) < (l0.length : Int) := of_decide_eq_true as_
      obtain ⟨ad636, e636, hx636_0⟩ := Kd.at_int HR0.out (ji12) p636 q636
      cases e636
      replace p636 := eq_true p636
      replace q636 := eq_true q636
      have p637 : 0 ≤ ((ji15) : Int) := of_decide_eq_true as_
      have q637 : (ji15) < (l0.length : Int) := of_decide_eq_true as_
      obtain ⟨ad637, e637, hx637_0⟩ := Kd.at_int HR0.out (ji15) p637 q637
      obtain rfl : ad636 = ad637 := (by injection e637)
      replace p637 := eq_true p637
      replace q637 := eq_true q637
      go_wp2
      go_ret2
      exact ⟨by first | rfl | (simp; done) | (simp only [← hji12, ← hji15] <;> (first | rfl | simp)) | (simp [*]; done), by repeat (first | exact Drawn0.refl _ | apply Drawn0.step)⟩
def spec_l1Bytes.l0 : Nat → List Int → Int → Int → List Int → Int → Option (ByteArray × Int)
  | 0, _, _, _, _, _ => none
  | k + 1, x0, x1, x2, x8, x9 => if x9 < x2 then ((spec_l1Take.f k x0 x1 256).bind fun bt643 => (if x8.length < 140737488355328 then (spec_l1Bytes.l0 k x0 bt643.2 x2 (x8 ++ [(bt643.1) % 256]) (wrap64 (x9 + 1))) else (none))) else (some (strOfNums x8, x1))
def spec_l1Bytes.f (k : Nat) (l0 : List Int) (a1 : Int) (a2 : Int) : Option (ByteArray × Int) := spec_l1Bytes.l0 k l0 a1 a2 (([] : List Int)) 0
theorem spec_l1Bytes.mono_l : ∀ k, (∀ y0 y1 y2 y3 y4, LeO (spec_l1Bytes.l0 k y0 y1 y2 y3 y4) (spec_l1Bytes.l0 (k + 1) y0 y1 y2 y3 y4))
  | 0 => fun _ _ _ _ _ r h => by simp [spec_l1Bytes.l0] at h
  | k + 1 => by
    have ih0 := spec_l1Bytes.mono_l k
    · intro y0 y1 y2 y3 y4
      unfold spec_l1Bytes.l0
      repeat' first
      | (with_reducible exact ih0 _ _ _ _ _)
      | (with_reducible exact spec_l1Take.mono _ _ _ _)
      | (with_reducible exact LeO.refl _)
      | (with_reducible exact LeO.none _)
      | (with_reducible refine LeO.ite ?_ ?_)
      | (with_reducible refine LeO.bind ?_ (fun _ => ?_))
      | exact ih0 _ _ _ _ _
      | exact spec_l1Take.mono _ _ _ _
      | exact LeO.none _
      | refine LeO.ite ?_ ?_
      | refine LeO.bind ?_ (fun _ => ?_)
theorem spec_l1Bytes.mono : ∀ a0 a1 a2 k, LeO (spec_l1Bytes.f k a0 a1 a2) (spec_l1Bytes.f (k + 1) a0 a1 a2) := by
  intro a0 a1 a2 k
  have ih0 := spec_l1Bytes.mono_l k
  unfold spec_l1Bytes.f
  repeat' first
      | (with_reducible exact ih0 _ _ _ _ _)
      | (with_reducible exact spec_l1Take.mono _ _ _ _)
      | (with_reducible exact LeO.refl _)
      | (with_reducible exact LeO.none _)
      | (with_reducible refine LeO.ite ?_ ?_)
      | (with_reducible refine LeO.bind ?_ (fun _ => ?_))
      | exact ih0 _ _ _ _ _
      | exact spec_l1Take.mono _ _ _ _
      | exact LeO.none _
      | refine LeO.ite ?_ ?_
      | refine LeO.bind ?_ (fun _ => ?_)
set_option maxHeartbeats 8000000 in
set_option maxRecDepth 100000 in
theorem spec_l1Bytes.calls (k : Nat) (A0 : Option Addr) (c0 : Nat) (l0 : List Int) (a1 : Int) (a2 : Int) (r1 : ByteArray) (r2 : Int) (w : World) (hr0 : Kd.C (Kd.int .u8) w A0 l0.length l0) (hc0 : l0.length ≤ c0) (h : spec_l1Bytes.f k l0 a1 a2 = some (r1, r2)) :
    Calls Tryz.prog 85 #[.slice A0 l0.length c0, .int .i64 a1, .int .i64 a2] w fun e w' => e = .returned (.tuple #[.string r1, .int .i64 r2]) ∧ Below w.heap.size w w' := by
  have HR0 := Aside0.mk hr0
  have HC0 := Aside0.mk hc0
  clear hr0 hc0
  have HB := Aside0.mk (Below.refl w.heap.size w)
  have H : (spec_l1Bytes.l0 k l0 a1 a2 (([] : List Int)) 0) = some (r1, r2) := h
  clear h
  obtain ⟨y640, hy640⟩ : ∃ y_ : List Int, y_ = (([] : List Int)) := ⟨_, rfl⟩
  replace H : (spec_l1Bytes.l0 k l0 a1 a2 y640 0) = some (r1, r2) := by first | (rw [hy640]; with_reducible exact H) | (have H2_ := (Option.bind_some _ _).symm.trans H; rw [hy640]; with_reducible exact H2_) | (have H2_ := (Option.bind_some _ _).symm.trans H; with_reducible exact H2_) | with_reducible exact H | (rw [hy640]; exact H) | exact H
  have Ny640 := Aside0.mk hy640
  clear hy640
  have H' := Aside0.mk H
  clear H
  go_enter Tryz.func85, Tryz.ntmps85
  go_wp2_with (first | ((with_reducible refine gate_dst (N := 11) rfl ?_); refine Kd.R_lit (Kd.int .u8) _ 5 ?hg (N := 11) ?hd (xs := ([] : List Int)) (inner := []) (ok := fun _ => True) (okp := fun _ => True) ?hr ?hp (fun _ hk => hk) trivial (Below.refl _ _) (Nat.le_refl _) (by simp) ?_; (case hd => rfl); (case hg => rfl); (case hr => first | (go_simp; done) | (go_simp; rfl)); (case hp => exact (Reps.none _ _)); intro v641 w4 ho5 hb hg_ hnew_; clear hg_ hnew_; (first | rw [← Ny640.out] at ho5 | (simp only [Int.reduceToNat] at ho5; rw [← Ny640.out] at ho5)); have n0_ := Aside0.mk (Kd.R_lower ho5 (below_size hb_)); have n1_ := Aside0.mk (below_step hb_ hb); clear HB; have HO642 := n0_; have HB := n1_; clear n0_ n1_; clear hb ho5))
  go_loopg [1, 8, 9] k (fun kq v1 v8 v9 w' => ∃ (x1_1 : Int) (x8_1 : List Int) (x9_1 : Int), v1 = .int .i64 x1_1 ∧ v9 = .int .i64 x9_1 ∧ Aside0 (spec_l1Bytes.l0 kq l0 x1_1 a2 x8_1 x9_1 = some (r1, r2)) ∧ Aside0 (kq ≤ k) ∧ Aside0 (Kd.R (Kd.int .u8) 5 w' w.heap.size (fun _ => True) v8 x8_1) ∧ Aside0 (Below w.heap.size w w'))
  case atStart => exact ⟨(a1), (y640), (0), rs_, rs_, H', ⟨Nat.le_refl _⟩, ⟨by (with_reducible repeat (first | apply Kd.R_alloc | apply Kd.R_drewN | apply Kd.R_drew)); exact HO642.out⟩, ⟨by repeat (first | (with_reducible first | exact HB.out | apply below_alloc | apply pw_below_drewN | apply below_drew1) | exact HB.out)⟩⟩
  case round =>
    clear H'
    try clear p2
    obtain ⟨x1_1, x8_1, x9_1, rfl, rfl, HA, HK1, HO_8, HB⟩ := hrel
    cases gk with
    | zero => exact absurd HA.out (by simp [spec_l1Bytes.l0])
    | succ k1 =>
      have H := HA.out
      clear HA
      simp only [spec_l1Bytes.l0] at H
      by_cases c6 : x9_1 < a2
      rotate_left
      · rw [if_neg c6] at H
        have c6b0 := decide_eq_false c6
        clear c6
        simp only [Option.some.injEq, Prod.mk.injEq] at H
        obtain ⟨rfl, rfl⟩ := H
        have hcv10 := own_string (P := Tryz.prog) Tryz.underlying46 Tryz.underlying5 Tryz.underlying9 (Kd.own_of_R HO_8.out)
        go_wp2
        go_ret2
        exact ⟨by first | rfl | (simp [errW_none, errW_some] <;> rfl) | (simp [*, errW_none, errW_some] <;> rfl), by repeat (first | (with_reducible first | exact HB.out | apply below_alloc | apply pw_below_drewN | apply below_drew1) | exact HB.out)⟩

      rw [if_pos c6] at H
      have c6b0 := decide_eq_true c6
      clear c6
      replace H := Option.bind_eq_some_iff.mp H
      obtain ⟨⟨t643, t644⟩, A70, H⟩ := H
      try dsimp only at H
      have A7 := Aside0.mk A70
      clear A70
      by_cases c8 : x8_1.length < 140737488355328
      rotate_left
      · rw [if_neg c8] at H
        exact absurd H (by simp)
      rw [if_pos c8] at H
      have LMc8 := Aside0.mk c8
      clear c8
      obtain ⟨y645, hy645⟩ : ∃ y_ : List Int, y_ = (x8_1 ++ [(t643) % 256]) := ⟨_, rfl⟩
      replace H : (spec_l1Bytes.l0 k1 l0 t644 a2 y645 (wrap64 (x9_1 + 1))) = some (r1, r2) := by first | (rw [hy645]; with_reducible exact H) | (have H2_ := (Option.bind_some _ _).symm.trans H; rw [hy645]; with_reducible exact H2_) | (have H2_ := (Option.bind_some _ _).symm.trans H; with_reducible exact H2_) | with_reducible exact H | (rw [hy645]; exact H) | exact H
      have Ny645 := Aside0.mk hy645
      clear hy645
      have H' := Aside0.mk H
      clear H
      go_wp2_with (first | ((with_reducible refine gate_callee (f := 84) rfl ?_); refine goesL_ (some 20) rfl rfl Tryz.func84 (by kernel_rfl) rfl #[.slice A0 l0.length c0, .int .i64 x1_1, .int .i64 256] rfl ga_ ?_; (with_reducible refine (spec_l1Take.calls k1 _ _ l0 x1_1 256 t643 t644 _ ?side1 ?side2 A7.out).mono ?_); (case side1 => repeat (first | exact (Kd.C_below HR0.out HB.out) | (with_reducible refine Kd.C_alloc ?_ _) | (with_reducible refine Kd.C_drewN ?_ _) | (with_reducible refine Kd.C_drew ?_))); (case side2 => exact HC0.out); rintro e w' ⟨rfl, ⟨nd, rfl⟩⟩; refine ⟨_, rfl, ?_⟩) | ((with_reducible refine gate_builtin (b := .append) (xs := #[.tmp 23, .tmp 26]) rfl ?_); at_builtin; refine Kd.R_append (Kd.int .u8) (w0 := w) w.heap.size rfl (.tmp 23) (.tmp 26) 46 5 (.int .u8 0) 1 rfl Tryz.underlying46 info5 rfl (by decide) (by omega) u8 x8_1 ((t643) % 256) [.int .u8 ((t643) % 256)] (fun _ => True) (fun _ => False) rfl rfl ?aP (fun _ hk => hk.elim) ?aF ?aO ?aB ?aS ?aL ?_; (case aP => exact rfl); (case aB => exact hb_); (case aF => exact (fun _ _ => trivial)); (case aO => exact (kr_ HO_8.out)); (case aS => exact (below_size hb_)); (case aL => have := LMc8.out; omega); intro v646 w9 ho hb hg hat; rw [← Ny645.out] at ho; have n0_ := Aside0.mk (hb); have n1_ := Aside0.mk (ho); clear HB; clear HO_8; have HB := n0_; have HO647 := n1_; clear n0_ n1_; clear ho hb hg hat))
      go_roundg k1
      case measure => have := HK1.out; omega
      case rel => exact ⟨(t644), (y645), (wrap64 (x9_1 + 1)), rs_, rs_, H', ⟨by have := HK1.out; omega⟩, ⟨by (with_reducible repeat (first | apply Kd.R_alloc | apply Kd.R_drewN | apply Kd.R_drew)); exact HO647.out⟩, ⟨by repeat (first | (with_reducible first | exact HB.out | apply below_alloc | apply pw_below_drewN | apply below_drew1) | exact HB.out)⟩⟩
end Go.Proofs.YtgdcafbdkidamaaGreatDoor.B
end
