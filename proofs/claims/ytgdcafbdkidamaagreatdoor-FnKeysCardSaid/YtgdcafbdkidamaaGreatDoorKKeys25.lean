/- What the proof of FnKeys leans on, part 25: cut out of the texts of this claim's making by a program (wip/tools/pack.py). -/
import Derived.Test.YtgdcafbdkidamaaGreatDoorKKeys5
import Derived.Test.YtgdcafbdkidamaaGreatDoorKKeys8
import Derived.Test.YtgdcafbdkidamaaGreatDoorKKeys10
import Derived.Test.YtgdcafbdkidamaaGreatDoorKKeys11
import Derived.Test.YtgdcafbdkidamaaGreatDoorKKeys12
import Derived.Test.YtgdcafbdkidamaaGreatDoorKKeys19
import Derived.Test.YtgdcafbdkidamaaGreatDoorKKeys21
import Derived.Test.YtgdcafbdkidamaaGreatDoorKKeys23
import Derived.Test.YtgdcafbdkidamaaGreatDoorKKeys24
import Derived.KernelRfl
import Derived.Lib.Hide
section
namespace Go.Proofs.YtgdcafbdkidamaaGreatDoor.C
open Go.Proofs.YtgdcafbdkidamaaGreatDoor.Sq Go.RowKit Go.Proofs.YtgdcafbdkidamaaGreatDoor.B Go.Proofs.YtgdcafbdkidamaaGreatDoor.H0 Go.Proofs.YtgdcafbdkidamaaGreatDoor.F0 Go.Proofs.YtgdcafbdkidamaaGreatDoor.KG2 Go.Proofs.YtgdcafbdkidamaaGreatDoorW.PrintWords Go.Proofs.YtgdcafbdkidamaaGreatDoorW.PrintLast Go.Proofs.YtgdcafbdkidamaaGreatDoorW.PrintMore
attribute [local go_sem high] field_num_fieldP   -- for this text's walks alone
attribute [local go_sem] max2_int min2_int max_two min_two max_three min_three max_four min_four   -- for this text's walks alone
set_option linter.unusedVariables false
set_option linter.unusedSimpArgs false
def spec_Hmac.j0 : Nat → ByteArray → ByteArray → Option (ByteArray)
  | 0, _, _ => none
  | k + 1, x0, x1 => (spec_l1Long.f k (wrap64 (64 - (x0.size : Int))) (⟨#[0]⟩ : ByteArray)).bind fun t523 => (if x0.size + t523.size ≤ 9223372036854775807 then ((spec_l1Xor.f k (x0 ++ t523) 92).bind fun t524 => ((spec_l1Xor.f k (x0 ++ t523) 54).bind fun t525 => (if t525.size + x1.size ≤ 9223372036854775807 then ((spec_Sha256.f (t525 ++ x1)).bind fun t526 => (if t524.size + t526.size ≤ 9223372036854775807 then ((spec_Sha256.f (t524 ++ t526)).bind fun t527 => (some t527)) else (none))) else (none)))) else (none))
def spec_Hmac.f (k : Nat) (a0 : ByteArray) (a1 : ByteArray) : Option (ByteArray) := if (a0.size : Int) > 64 then ((spec_Sha256.f a0).bind fun t522 => (spec_Hmac.j0 k t522 a1)) else (spec_Hmac.j0 k a0 a1)
set_option maxHeartbeats 8000000 in
set_option maxRecDepth 100000 in
theorem spec_Hmac.calls (k : Nat) (a0 : ByteArray) (a1 : ByteArray) (r : ByteArray) (w : World) (h : spec_Hmac.f k a0 a1 = some r) :
    Calls Tryz.prog 75 #[.string a0, .string a1] w fun e w' => e = .returned (.string r) ∧ Below w.heap.size w w' := by
  have HB := Aside0.mk (Below.refl w.heap.size w)
  have H : (if (a0.size : Int) > 64 then ((spec_Sha256.f a0).bind fun t522 => (spec_Hmac.j0 k t522 a1)) else (spec_Hmac.j0 k a0 a1)) = some r := h
  clear h
  have HC3 := Aside0.mk H
  clear H
  go_enter Tryz.func75, Tryz.ntmps75
  go_upto_if 7 with (fail)
  go_cut [0] (fun v0 wc => ∃ (kq : Nat) (x0_2 : ByteArray), v0 = .string x0_2 ∧ Aside0 (spec_Hmac.j0 kq x0_2 a1 = some r) ∧ Aside0 (kq ≤ k) ∧ Aside0 (Below w.heap.size w wc))
  case first =>
    have H := HC3.out
    clear HC3
    by_cases c4 : (a0.size : Int) > 64
    rotate_left
    · rw [if_neg c4] at H
      have c4b0 := decide_eq_false c4
      have c4b1 : decide (64 < a0.size) = false := decide_eq_false (by omega)
      clear c4
      (first | rw [c4b0] | (simp only [i64_w, i32_w]; rw [c4b0]) | skip)
      have H' := Aside0.mk H
      clear H
      go_wp2
      go_meet
      case rel => exact ⟨_, (a0), rs_, H', ⟨by first | omega | exact Nat.le_refl _⟩, ⟨by repeat (first | (with_reducible first | exact HB.out | apply below_alloc | apply pw_below_drewN | apply below_drew1) | exact HB.out)⟩⟩
    rw [if_pos c4] at H
    have c4b0 := decide_eq_true c4
    have c4b1 : decide (64 < a0.size) = true := decide_eq_true (by omega)
    clear c4
    (first | rw [c4b0] | (simp only [i64_w, i32_w]; rw [c4b0]) | skip)
    replace H := Option.bind_eq_some_iff.mp H
    obtain ⟨t522, A50, H⟩ := H
    replace H : (spec_Hmac.j0 k t522 a1) = some r := H
    have A5 := Aside0.mk A50
    clear A50
    have H' := Aside0.mk H
    clear H
    go_wp2_with (first | ((with_reducible refine gate_callee (f := 101) rfl ?_); refine goesL_ (some 9) rfl rfl Tryz.func101 (by kernel_rfl) rfl #[.string a0] rfl ga_ ?_; (with_reducible refine (spec_Sha256.calls a0 t522 _ A5.out).mono ?_); rintro e w6 ⟨rfl, hb⟩; refine ⟨_, rfl, ?_⟩; have n0_ := Aside0.mk (below_step hb_ hb); clear HB; have HB := n0_; clear n0_; (try clear hb); (try clear hb2); (try clear hk); (try clear hi)))
    go_meet
    case rel => exact ⟨_, (t522), rs_, H', ⟨by first | omega | exact Nat.le_refl _⟩, ⟨by repeat (first | (with_reducible first | exact HB.out | apply below_alloc | apply pw_below_drewN | apply below_drew1) | exact HB.out)⟩⟩
  case rest =>
    clear HC3
    try clear c1
    try clear p2
    try clear c4
    try clear c4b0
    try clear c4b1
    obtain ⟨kq, x0_2, rfl, HA, HJ2, HB⟩ := hcut
    cases kq with
    | zero => exact absurd HA.out (by simp [spec_Hmac.j0])
    | succ kj2 =>
      have H := HA.out
      clear HA
      simp only [spec_Hmac.j0] at H
      replace H := Option.bind_eq_some_iff.mp H
      obtain ⟨t523, A70, H⟩ := H
      try dsimp only at H
      have A7 := Aside0.mk A70
      clear A70
      by_cases c8 : x0_2.size + t523.size ≤ 9223372036854775807
      rotate_left
      · rw [if_neg c8] at H
        exact absurd H (by simp)

      rw [if_pos c8] at H
      have c8b0 := eq_true c8
      have c8b1 := decide_eq_true c8
      try have c8b2 : (9223372036854775807 < x0_2.size + t523.size) = False := eq_false (Nat.not_lt.2 c8)
      try (have c8b3 := c8b2; simp only [ByteArray.size_append] at c8b3)
      replace H := Option.bind_eq_some_iff.mp H
      obtain ⟨t524, A90, H⟩ := H
      try dsimp only at H
      have A9 := Aside0.mk A90
      clear A90
      replace H := Option.bind_eq_some_iff.mp H
      obtain ⟨t525, A100, H⟩ := H
      try dsimp only at H
      have A10 := Aside0.mk A100
      clear A100
      by_cases c11 : t525.size + a1.size ≤ 9223372036854775807
      rotate_left
      · rw [if_neg c11] at H
        exact absurd H (by simp)
      rw [if_pos c11] at H
      have c11b0 := eq_true c11
      have c11b1 := decide_eq_true c11
      try have c11b2 : (9223372036854775807 < t525.size + a1.size) = False := eq_false (Nat.not_lt.2 c11)
      try (have c11b3 := c11b2; simp only [ByteArray.size_append] at c11b3)
      replace H := Option.bind_eq_some_iff.mp H
      obtain ⟨t526, A120, H⟩ := H
      try dsimp only at H
      have A12 := Aside0.mk A120
      clear A120
      by_cases c13 : t524.size + t526.size ≤ 9223372036854775807
      rotate_left
      · rw [if_neg c13] at H
        exact absurd H (by simp)
      rw [if_pos c13] at H
      have c13b0 := eq_true c13
      have c13b1 := decide_eq_true c13
      try have c13b2 : (9223372036854775807 < t524.size + t526.size) = False := eq_false (Nat.not_lt.2 c13)
      try (have c13b3 := c13b2; simp only [ByteArray.size_append] at c13b3)
      replace H := Option.bind_eq_some_iff.mp H
      obtain ⟨t527, A140, H⟩ := H
      replace H : (some t527) = some r := H
      have A14 := Aside0.mk A140
      clear A140
      obtain rfl := Option.some.inj H
      have ew_ : wrap64 (64 - (x0_2.size : Int)) = 64 - (x0_2.size : Int) := by unfold wrap64; omega
      rw [ew_] at A7
      clear ew_
      go_wp2_with (first | ((with_reducible refine gate_callee (f := 86) rfl ?_); refine goesL_ (some 14) rfl rfl Tryz.func86 (by kernel_rfl) rfl #[.int .i64 (64 - (x0_2.size : Int)), .string (⟨#[0]⟩ : ByteArray)] rfl ga_ ?_; (with_reducible refine (spec_l1Long.calls kj2 (64 - (x0_2.size : Int)) (⟨#[0]⟩ : ByteArray) t523 _ A7.out).mono ?_); rintro e w' ⟨rfl, ⟨nd, rfl⟩⟩; refine ⟨_, rfl, ?_⟩) | ((with_reducible refine gate_callee (f := 121) rfl ?_); refine goesL_ (some 17) rfl rfl Tryz.func121 (by kernel_rfl) rfl #[.string (x0_2 ++ t523), .int .u8 92] rfl ga_ ?_; (with_reducible refine (spec_l1Xor.calls kj2 (x0_2 ++ t523) 92 t524 _ A9.out).mono ?_); rintro e w15 ⟨rfl, hb⟩; refine ⟨_, rfl, ?_⟩; have n0_ := Aside0.mk (below_step hb_ hb); clear HB; have HB := n0_; clear n0_; (try clear hb); (try clear hb2); (try clear hk); (try clear hi)) | ((with_reducible refine gate_callee (f := 121) rfl ?_); refine goesL_ (some 19) rfl rfl Tryz.func121 (by kernel_rfl) rfl #[.string (x0_2 ++ t523), .int .u8 54] rfl ga_ ?_; (with_reducible refine (spec_l1Xor.calls kj2 (x0_2 ++ t523) 54 t525 _ A10.out).mono ?_); rintro e w16 ⟨rfl, hb⟩; refine ⟨_, rfl, ?_⟩; have n0_ := Aside0.mk (below_step hb_ hb); clear HB; have HB := n0_; clear n0_; (try clear hb); (try clear hb2); (try clear hk); (try clear hi)) | ((with_reducible refine gate_callee (f := 101) rfl ?_); refine goesL_ (some 22) rfl rfl Tryz.func101 (by kernel_rfl) rfl #[.string (t525 ++ a1)] rfl ga_ ?_; (with_reducible refine (spec_Sha256.calls (t525 ++ a1) t526 _ A12.out).mono ?_); rintro e w17 ⟨rfl, hb⟩; refine ⟨_, rfl, ?_⟩; have n0_ := Aside0.mk (below_step hb_ hb); clear HB; have HB := n0_; clear n0_; (try clear hb); (try clear hb2); (try clear hk); (try clear hi)) | ((with_reducible refine gate_callee (f := 101) rfl ?_); refine goesL_ (some 24) rfl rfl Tryz.func101 (by kernel_rfl) rfl #[.string (t524 ++ t526)] rfl ga_ ?_; (with_reducible refine (spec_Sha256.calls (t524 ++ t526) t527 _ A14.out).mono ?_); rintro e w18 ⟨rfl, hb⟩; refine ⟨_, rfl, ?_⟩; have n0_ := Aside0.mk (below_step hb_ hb); clear HB; have HB := n0_; clear n0_; (try clear hb); (try clear hb2); (try clear hk); (try clear hi)))
      go_ret
      exact ⟨by first | rfl | (simp [errW_none, errW_some] <;> rfl) | (simp [*, errW_none, errW_some] <;> rfl), by repeat (first | (with_reducible first | exact HB.out | apply below_alloc | apply pw_below_drewN | apply below_drew1) | exact HB.out)⟩
def spec_Extract.f (k : Nat) (a0 : ByteArray) (a1 : ByteArray) : Option (ByteArray) := (spec_Hmac.f k a0 a1).bind fun t528 => (some t528)
set_option maxHeartbeats 8000000 in
set_option maxRecDepth 100000 in
theorem spec_Extract.calls (k : Nat) (a0 : ByteArray) (a1 : ByteArray) (r : ByteArray) (w : World) (h : spec_Extract.f k a0 a1 = some r) :
    Calls Tryz.prog 96 #[.string a0, .string a1] w fun e w' => e = .returned (.string r) ∧ Below w.heap.size w w' := by
  have HB := Aside0.mk (Below.refl w.heap.size w)
  have H : ((spec_Hmac.f k a0 a1).bind fun t528 => (some t528)) = some r := h
  clear h
  replace H := Option.bind_eq_some_iff.mp H
  obtain ⟨t528, A30, H⟩ := H
  replace H : (some t528) = some r := H
  have A3 := Aside0.mk A30
  clear A30
  obtain rfl := Option.some.inj H
  go_enter Tryz.func96, Tryz.ntmps96
  go_wp2_with (first | ((with_reducible refine gate_callee (f := 75) rfl ?_); refine goesL_ (some 7) rfl rfl Tryz.func75 (by kernel_rfl) rfl #[.string a0, .string a1] rfl ga_ ?_; (with_reducible refine (spec_Hmac.calls k a0 a1 t528 _ A3.out).mono ?_); rintro e w4 ⟨rfl, hb⟩; refine ⟨_, rfl, ?_⟩; have n0_ := Aside0.mk (below_step hb_ hb); clear HB; have HB := n0_; clear n0_; (try clear hb); (try clear hb2); (try clear hk); (try clear hi)))
  go_ret
  exact ⟨by first | rfl | (simp [errW_none, errW_some] <;> rfl) | (simp [*, errW_none, errW_some] <;> rfl), by repeat (first | (with_reducible first | exact HB.out | apply below_alloc | apply pw_below_drewN | apply below_drew1) | exact HB.out)⟩

mutual
def spec_Expand.j0 : Nat → ByteArray → ByteArray → Int → Bool → Option (ByteArray × Bool)
  | 0, _, _, _, _ => none
  | k + 1, x0, x1, x2, x16 => if x16 = true then (some ((⟨#[]⟩ : ByteArray), false)) else (spec_Expand.l0 k x0 x1 x2 (⟨#[]⟩ : ByteArray) (⟨#[]⟩ : ByteArray) 1)
def spec_Expand.l0 : Nat → ByteArray → ByteArray → Int → ByteArray → ByteArray → Int → Option (ByteArray × Bool)
  | 0, _, _, _, _, _, _ => none
  | k + 1, x0, x1, x2, x8, x9, x10 => if (x8.size : Int) < x2 then (if x9.size + x1.size ≤ 9223372036854775807 then ((some (([(x10) % 256] : List Int) : List Int)).bind fun y529 => (if (x9 ++ x1).size + (strOfNums y529).size ≤ 9223372036854775807 then ((spec_Hmac.f k x0 ((x9 ++ x1) ++ (strOfNums y529))).bind fun t532 => (if x8.size + t532.size ≤ 9223372036854775807 then (spec_Expand.l0 k x0 x1 x2 (x8 ++ t532) t532 (wrap64 (x10 + 1))) else (none))) else (none))) else (none)) else (if 0 ≤ x2 then (if x2 ≤ (x8.size : Int) then (some (x8.extract 0 (x2 : Int).toNat, true)) else (none)) else (none))
end
def spec_Expand.f (k : Nat) (a0 : ByteArray) (a1 : ByteArray) (a2 : Int) : Option (ByteArray × Bool) := if a2 < 0 then (spec_Expand.j0 k a0 a1 a2 true) else (spec_Expand.j0 k a0 a1 a2 (decide (a2 > 8160)))
set_option maxHeartbeats 8000000 in
set_option maxRecDepth 100000 in
theorem spec_Expand.calls (k : Nat) (a0 : ByteArray) (a1 : ByteArray) (a2 : Int) (r1 : ByteArray) (r2 : Bool) (w : World) (h : spec_Expand.f k a0 a1 a2 = some (r1, r2)) :
    Calls Tryz.prog 122 #[.string a0, .string a1, .int .i64 a2] w fun e w' => e = .returned (.tuple #[.string r1, .bool r2]) ∧ Below w.heap.size w w' := by
  have HB := Aside0.mk (Below.refl w.heap.size w)
  have H : (if a2 < 0 then (spec_Expand.j0 k a0 a1 a2 true) else (spec_Expand.j0 k a0 a1 a2 (decide (a2 > 8160)))) = some (r1, r2) := h
  clear h
  have HC4 := Aside0.mk H
  clear H
  go_enter Tryz.func122, Tryz.ntmps122
  go_upto_region 1 with (fail)
  go_cut [16] (fun v16 wc => ∃ (kq : Nat) (x16_3 : Bool), v16 = .bool x16_3 ∧ Aside0 (spec_Expand.j0 kq a0 a1 a2 x16_3 = some (r1, r2)) ∧ Aside0 (kq ≤ k) ∧ Aside0 (Below w.heap.size w wc))
  case first =>
    have H := HC4.out
    clear HC4
    by_cases c5 : a2 < 0
    · rw [if_pos c5] at H
      have c5b0 := decide_eq_true c5
      clear c5
      (first | rw [c5b0] | (simp only [i64_w, i32_w]; rw [c5b0]) | skip)
      have H' := Aside0.mk H
      clear H
      go_wp2
      go_meet
      case rel => exact ⟨_, (true), rs_, H', ⟨by first | omega | exact Nat.le_refl _⟩, ⟨by repeat (first | (with_reducible first | exact HB.out | apply below_alloc | apply pw_below_drewN | apply below_drew1) | exact HB.out)⟩⟩
    rw [if_neg c5] at H
    have c5b0 := decide_eq_false c5
    clear c5
    (first | rw [c5b0] | (simp only [i64_w, i32_w]; rw [c5b0]) | skip)
    have H' := Aside0.mk H
    clear H
    go_wp2
    go_meet
    case rel => exact ⟨_, (decide (a2 > 8160)), rs_, H', ⟨by first | omega | exact Nat.le_refl _⟩, ⟨by repeat (first | (with_reducible first | exact HB.out | apply below_alloc | apply pw_below_drewN | apply below_drew1) | exact HB.out)⟩⟩
  case rest =>
    clear HC4
    try clear c1
    try clear p2
    try clear c5
    try clear c5b0
    obtain ⟨kq, x16_3, rfl, HA, HJ3, HB⟩ := hcut
    cases kq with
    | zero => exact absurd HA.out (by simp [spec_Expand.j0])
    | succ kj3 =>
      have H := HA.out
      clear HA
      simp only [spec_Expand.j0] at H
      by_cases c6 : x16_3 = true
      · subst c6
        have H1 : (some ((⟨#[]⟩ : ByteArray), false)) = some (r1, r2) := by rw [if_pos rfl] at H; exact H
        clear H
        have H := H1
        clear H1
        simp only [Option.some.injEq, Prod.mk.injEq] at H
        obtain ⟨rfl, rfl⟩ := H
        go_wp2
        go_ret2
        exact ⟨by first | rfl | (simp [errW_none, errW_some] <;> rfl) | (simp [*, errW_none, errW_some] <;> rfl), by repeat (first | (with_reducible first | exact HB.out | apply below_alloc | apply pw_below_drewN | apply below_drew1) | exact HB.out)⟩
      replace c6 := Bool.eq_false_iff.mpr c6
      subst c6
      have H1 : (spec_Expand.l0 kj3 a0 a1 a2 (⟨#[]⟩ : ByteArray) (⟨#[]⟩ : ByteArray) 1) = some (r1, r2) := by rw [if_neg (show ¬ (false = true) by decide)] at H; exact H
      clear H
      have H := H1
      clear H1
      have H' := Aside0.mk H
      clear H
      go_wp2
      go_loopg [8, 9, 10] kj3 (fun kq v8 v9 v10 w' => ∃ (x8_2 : ByteArray) (x9_2 : ByteArray) (x10_2 : Int), v8 = .string x8_2 ∧ v9 = .string x9_2 ∧ v10 = .int .i64 x10_2 ∧ Aside0 (spec_Expand.l0 kq a0 a1 a2 x8_2 x9_2 x10_2 = some (r1, r2)) ∧ Aside0 (kq ≤ kj3) ∧ Aside0 (Below w.heap.size w w'))
      case atStart => exact ⟨((⟨#[]⟩ : ByteArray)), ((⟨#[]⟩ : ByteArray)), (1), rs_, rs_, rs_, H', ⟨Nat.le_refl _⟩, ⟨by repeat (first | (with_reducible first | exact HB.out | apply below_alloc | apply pw_below_drewN | apply below_drew1) | exact HB.out)⟩⟩
      case round =>
        clear H'
        try clear c1
        try clear p2
        try clear c5
        try clear c5b0
        try clear c6
        try clear p2
        obtain ⟨x8_2, x9_2, x10_2, rfl, rfl, rfl, HA, HK2, HB⟩ := hrel
        cases gk with
        | zero => exact absurd HA.out (by simp [spec_Expand.l0])
        | succ k2 =>
          have H := HA.out
          clear HA
          simp only [spec_Expand.l0] at H
          by_cases c7 : (x8_2.size : Int) < a2
          rotate_left
          · rw [if_neg c7] at H
            have c7b0 := decide_eq_false c7
            clear c7
            by_cases c16 : 0 ≤ a2
            rotate_left
            · rw [if_neg c16] at H
              exact absurd H (by simp)

            rw [if_pos c16] at H
            have c16b0 := eq_true c16
            have c16b1 := decide_eq_true c16
            clear c16
            by_cases c17 : a2 ≤ (x8_2.size : Int)
            rotate_left
            · rw [if_neg c17] at H
              exact absurd H (by simp)
            rw [if_pos c17] at H
            have c17b0 := eq_true c17
            have c17b1 := decide_eq_true c17
            clear c17
            simp only [Option.some.injEq, Prod.mk.injEq] at H
            obtain ⟨rfl, rfl⟩ := H
            go_wp2
            go_ret2
            exact ⟨by first | rfl | (simp [errW_none, errW_some] <;> rfl) | (simp [*, errW_none, errW_some] <;> rfl), by repeat (first | (with_reducible first | exact HB.out | apply below_alloc | apply pw_below_drewN | apply below_drew1) | exact HB.out)⟩
          rw [if_pos c7] at H
          have c7b0 := decide_eq_true c7
          clear c7
          by_cases c8 : x9_2.size + a1.size ≤ 9223372036854775807
          rotate_left
          · rw [if_neg c8] at H
            exact absurd H (by simp)
          rw [if_pos c8] at H
          have c8b0 := eq_true c8
          have c8b1 := decide_eq_true c8
          try have c8b2 : (9223372036854775807 < x9_2.size + a1.size) = False := eq_false (Nat.not_lt.2 c8)
          try (have c8b3 := c8b2; simp only [ByteArray.size_append] at c8b3)
          obtain ⟨y529, hy529⟩ : ∃ y_ : List Int, y_ = (([(x10_2) % 256] : List Int)) := ⟨_, rfl⟩
          replace H : (if (x9_2 ++ a1).size + (strOfNums y529).size ≤ 9223372036854775807 then ((spec_Hmac.f k2 a0 ((x9_2 ++ a1) ++ (strOfNums y529))).bind fun t532 => (if x8_2.size + t532.size ≤ 9223372036854775807 then (spec_Expand.l0 k2 a0 a1 a2 (x8_2 ++ t532) t532 (wrap64 (x10_2 + 1))) else (none))) else (none)) = some (r1, r2) := by first | (rw [hy529]; with_reducible exact H) | (have H2_ := (Option.bind_some _ _).symm.trans H; rw [hy529]; with_reducible exact H2_) | (have H2_ := (Option.bind_some _ _).symm.trans H; with_reducible exact H2_) | with_reducible exact H | (rw [hy529]; exact H) | exact H
          have Ny529 := Aside0.mk hy529
          clear hy529
          by_cases c9 : (x9_2 ++ a1).size + (strOfNums y529).size ≤ 9223372036854775807
          rotate_left
          · rw [if_neg c9] at H
            exact absurd H (by simp)
          rw [if_pos c9] at H
          have c9b0 := eq_true c9
          have c9b1 := decide_eq_true c9
          try have c9b2 : (9223372036854775807 < (x9_2 ++ a1).size + (strOfNums y529).size) = False := eq_false (Nat.not_lt.2 c9)
          try (have c9b3 := c9b2; simp only [ByteArray.size_append] at c9b3)
          replace H := Option.bind_eq_some_iff.mp H
          obtain ⟨t532, A100, H⟩ := H
          try dsimp only at H
          have A10 := Aside0.mk A100
          clear A100
          by_cases c11 : x8_2.size + t532.size ≤ 9223372036854775807
          rotate_left
          · rw [if_neg c11] at H
            exact absurd H (by simp)
          rw [if_pos c11] at H
          have c11b0 := eq_true c11
          have c11b1 := decide_eq_true c11
          try have c11b2 : (9223372036854775807 < x8_2.size + t532.size) = False := eq_false (Nat.not_lt.2 c11)
          try (have c11b3 := c11b2; simp only [ByteArray.size_append] at c11b3)
          have H' := Aside0.mk H
          clear H
          go_wp2_with (first | ((with_reducible refine gate_dst (N := 29) rfl ?_); refine Kd.R_lit (Kd.int .u8) _ 5 ?hg (N := 29) ?hd (xs := ([(x10_2) % 256] : List Int)) (inner := [.int .u8 ((x10_2) % 256)]) (ok := fun _ => True) (okp := fun _ => True) ?hr ?hp (fun _ hk => hk) trivial (Below.refl _ _) (Nat.le_refl _) (by simp) ?_; (case hd => rfl); (case hg => rfl); (case hr => first | (go_simp; done) | (go_simp; rfl)); (case hp => exact (Reps.one (show Kd.M (Kd.int .u8) _ _ _ ((x10_2) % 256) [.int .u8 ((x10_2) % 256)] from rfl) (Reps.none _ _))); intro v530 w12 ho13 hb hg_ hnew_; clear hg_ hnew_; (first | rw [← Ny529.out] at ho13 | (simp only [Int.reduceToNat] at ho13; rw [← Ny529.out] at ho13)); have n0_ := Aside0.mk (Kd.R_lower ho13 (below_size hb_)); have n1_ := Aside0.mk (below_step hb_ hb); clear HB; have HO531 := n0_; have HB := n1_; clear n0_ n1_; clear hb ho13; have hcv14 := own_string (P := Tryz.prog) Tryz.underlying46 Tryz.underlying5 Tryz.underlying9 (Kd.own_of_R HO531.out)) | ((with_reducible refine gate_callee (f := 75) rfl ?_); refine goesL_ (some 32) rfl rfl Tryz.func75 (by kernel_rfl) rfl #[.string a0, .string ((x9_2 ++ a1) ++ (strOfNums y529))] rfl ga_ ?_; (with_reducible refine (spec_Hmac.calls k2 a0 ((x9_2 ++ a1) ++ (strOfNums y529)) t532 _ A10.out).mono ?_); rintro e w15 ⟨rfl, hb⟩; refine ⟨_, rfl, ?_⟩; have n0_ := Aside0.mk (Kd.R_below (kr_ HO531.out) hb); have n1_ := Aside0.mk (below_step hb_ hb); clear HO531; clear HB; have HO531 := n0_; have HB := n1_; clear n0_ n1_; (try clear hb); (try clear hb2); (try clear hk); (try clear hi)))
          go_roundg k2
          case measure => have := HJ3.out; have := HK2.out; omega
          case rel => exact ⟨(x8_2 ++ t532), (t532), (wrap64 (x10_2 + 1)), rs_, rs_, rs_, H', ⟨by have := HJ3.out; have := HK2.out; omega⟩, ⟨by repeat (first | (with_reducible first | exact HB.out | apply below_alloc | apply pw_below_drewN | apply below_drew1) | exact HB.out)⟩⟩
end Go.Proofs.YtgdcafbdkidamaaGreatDoor.C
end
section
namespace Go.Proofs.YtgdcafbdkidamaaGreatDoor.Hp
open Go Go.RowKit Go.Proofs.YtgdcafbdkidamaaGreatDoorW.PrintWords Go.Proofs.YtgdcafbdkidamaaGreatDoorW.PrintLast Go.Proofs.YtgdcafbdkidamaaGreatDoorW.PrintMore Go.Proofs.YtgdcafbdkidamaaGreatDoor.K0 Go.Proofs.YtgdcafbdkidamaaGreatDoor.K3 Go.Proofs.YtgdcafbdkidamaaGreatDoor.K4 Go.Proofs.YtgdcafbdkidamaaGreatDoor.K5 Go.Proofs.YtgdcafbdkidamaaGreatDoor.K6 Go.Proofs.YtgdcafbdkidamaaGreatDoor.Ks Go.Proofs.YtgdcafbdkidamaaGreatDoor.KG2 Go.Proofs.YtgdcafbdkidamaaGreatDoor.KH2 Go.Proofs.YtgdcafbdkidamaaGreatDoor.B Go.Proofs.YtgdcafbdkidamaaGreatDoor.C
set_option linter.unusedVariables false
set_option linter.unusedSimpArgs false
theorem str_eq {a b : ByteArray} (h : sb a = sb b) : a = b := by
  have h2 : a.data.toList = b.data.toList := by
    refine List.map_inj_right (f := fun b : UInt8 => (b.toNat : Int)) ?_ |>.1 h
    intro x y e
    exact UInt8.toNat_inj.1 (by omega)
  cases a; cases b
  simp only [ByteArray.mk.injEq]
  exact Array.toList_inj.1 h2
theorem w64 {n : Int} (h0 : -9223372036854775808 ≤ n) (h : n < 9223372036854775808) : wrap64 n = n := by unfold wrap64; omega
/-- a long run of zeros -/
theorem sb_zero (x : ByteArray) (n : Nat) (h : sb x = List.replicate n 0) : x = zs n := str_eq (h.trans (sb_zs n).symm)
theorem long_zero (n k : Nat) (h : n ≤ 64) (hk : 200 ≤ k) : spec_l1Long.f k n (⟨#[0]⟩ : ByteArray) = some (zs n) := by
  have h0 : ∀ j : Nat, j ≤ 64 → (spec_l1Long.f 200 j (⟨#[0]⟩ : ByteArray)).map sb = some (List.replicate j 0) := by
    intro j hj
    have : (List.range 65).all (fun j : Nat => decide ((spec_l1Long.f 200 j (⟨#[0]⟩ : ByteArray)).map sb = some (List.replicate j 0))) = true := by kernel_rfl
    exact of_decide_eq_true (List.all_eq_true.1 this j (List.mem_range.2 (by omega)))
  have h1 := h0 n h
  obtain ⟨x, hx, hs⟩ := Option.map_eq_some_iff.1 h1
  have hz := sb_zero x n hs
  subst hz
  exact at_least (f := fun k => spec_l1Long.f k n (⟨#[0]⟩ : ByteArray)) (fun k => spec_l1Long.mono _ _ _) hx hk
theorem bt_rd (s : ByteArray) (i : Nat) (h : i < s.size) : bt s i = rd (sb s) i := by
  have hl : i < (sb s).length := by rw [sb_len]; exact h
  unfold bt rd
  rw [Int.toNat_natCast, dif_pos h, List.getD_eq_getElem?_getD, List.getElem?_eq_getElem hl]
  simp [sb]; rfl
theorem xor_go (s : ByteArray) (c : Int) (hs : s.size < 140737488355328) : ∀ (d n k : Nat), n + d = s.size → d < k → spec_l1Xor.l0 k s c (xorL ((sb s).take n) c) n = some (strOfNums (xorL (sb s) c))
  | 0, n, k, hn, hk => by
    obtain ⟨k, rfl⟩ : ∃ j, k = j + 1 := ⟨k - 1, by omega⟩
    rw [spec_l1Xor.l0, if_neg (by omega), List.take_of_length_le (by rw [sb_len]; omega)]
  | d + 1, n, k, hn, hk => by
    obtain ⟨k, rfl⟩ : ∃ j, k = j + 1 := ⟨k - 1, by omega⟩
    have hl : n < (sb s).length := by rw [sb_len]; omega
    have hxl : (xorL ((sb s).take n) c).length = n := by rw [xorL_len, List.length_take]; omega
    rw [spec_l1Xor.l0, if_pos (by omega), if_pos (by omega), if_pos (by omega), w64 (by omega) (by omega), bt_rd s n (by omega)]
    have ih := xor_go s c hs d (n + 1) k (by omega) (by omega)
    rw [List.take_succ_eq_append_getElem hl] at ih
    have e1 : xorL ((sb s).take n ++ [(sb s)[n]]) c = xorL ((sb s).take n) c ++ [Go.bits .xor .u8 (rd (sb s) n) c] := by
      have e2 : rd (sb s) n = (sb s)[n] := by unfold rd; simp [List.getD_eq_getElem?_getD, hl]
      rw [e2]; unfold xorL; rw [List.map_append]; rfl
    rw [e1, show ((n + 1 : Nat) : Int) = (n : Int) + 1 by omega] at ih
    exact ih
theorem xor_f (s : ByteArray) (c : Int) (k : Nat) (hs : s.size < 140737488355328) (hk : s.size < k) : spec_l1Xor.f k s c = some (strOfNums (xorL (sb s) c)) := xor_go s c hs s.size 0 k (by omega) hk
theorem keyL_sb (key : ByteArray) (h : key.size ≤ 64) : sb (key ++ zs (64 - key.size)) = keyL key := by rw [sb_app, sb_zs]; rfl
theorem app_size (a b : ByteArray) : (a ++ b).size = a.size + b.size := by rw [← sb_len, sb_app, List.length_append, sb_len, sb_len]
theorem str_size {xs : List Int} : (strOfNums xs).size = xs.length := by unfold strOfNums; show (List.toArray _).size = _; simp
theorem sha1_sb (t : ByteArray) : sha1 t = strOfNums (fin kk (Sh.feedL (C kk) (iv8, []) (sb t)) t.size) := by unfold sha1 sha; rw [sbs_one, tot_one]
theorem hm_eq (key s : ByteArray) : hm1 key s = sha1 (strOfNums (xorL (keyL (K6.keyOf kk key)) 92) ++ sha1 (strOfNums (xorL (keyL (K6.keyOf kk key)) 54) ++ s)) := by
  have hl := keyL_len (K6.keyOf kk key) (K6.keyOf_le kk key)
  generalize hL : keyL (K6.keyOf kk key) = L at *
  unfold hm1 hm mac
  rw [hL, sha1_sb (strOfNums (xorL L 54) ++ s), sha1_sb, sb_app, sb_app, sb_str (bytes_xor L 92), sb_str (bytes_xor L 54), sb_fin, Sh.feed_append, Sh.feed_append, sbs_one, tot_one]
  have e1 : (strOfNums (xorL L 54) ++ s).size = 64 + s.size := by rw [app_size, str_size, xorL_len, hl]
  rw [e1]
  have e2 : (strOfNums (xorL L 92) ++ strOfNums (fin kk (Sh.feedL (C kk) (Sh.feedL (C kk) (iv8, []) (xorL L 54)) (sb s)) (64 + s.size))).size = 96 := by rw [app_size, str_size, str_size, xorL_len, hl, fin_len]
  rw [e2]
theorem sha1_size (t : ByteArray) : (sha1 t).size = 32 := sha_size _ _
theorem hmac_j (key s : ByteArray) (hk : key.size ≤ 64) (hs : s.size < 140737488355328 / 1024) (k : Nat) (hkk : 400 ≤ k) :
    spec_Hmac.j0 k key s = some (sha1 (strOfNums (xorL (keyL key) 92) ++ sha1 (strOfNums (xorL (keyL key) 54) ++ s))) := by
  obtain ⟨k, rfl⟩ : ∃ j, k = j + 1 := ⟨k - 1, by omega⟩
  have hl := keyL_len key hk
  rw [spec_Hmac.j0, w64 (by omega) (by omega), show (64 - (key.size : Int)) = ((64 - key.size : Nat) : Int) by omega, long_zero _ _ (by omega) (by omega), Option.bind_some, if_pos (by rw [zs_size]; omega)]
  have hz : (key ++ zs (64 - key.size)).size = 64 := by rw [app_size, zs_size]; omega
  rw [xor_f _ 92 k (by omega) (by omega), Option.bind_some, xor_f _ 54 k (by omega) (by omega), Option.bind_some, keyL_sb key hk]
  have h1 : (strOfNums (xorL (keyL key) 54)).size = 64 := by rw [str_size, xorL_len, hl]
  have h2 : (strOfNums (xorL (keyL key) 92)).size = 64 := by rw [str_size, xorL_len, hl]
  rw [if_pos (by omega)]
  unfold spec_Sha256.f
  rw [if_pos (by rw [app_size]; omega), Option.bind_some, if_pos (by rw [sha1_size]; omega), if_pos (by rw [app_size, sha1_size]; omega), Option.bind_some]
theorem hmac_spec (key s : ByteArray) (hk : key.size < 274877906944) (hs : s.size < 137438953472) (k : Nat) (hkk : 400 ≤ k) : spec_Hmac.f k key s = some (hm1 key s) := by
  rw [hm_eq]
  unfold spec_Hmac.f
  by_cases h : 64 < key.size
  · have e : K6.keyOf kk key = sha1 key := if_pos h
    rw [if_pos (by omega), e]
    unfold spec_Sha256.f
    rw [if_pos hk, Option.bind_some]
    exact hmac_j (sha1 key) s (by rw [sha1_size]; decide) (by omega) k hkk
  · have e : K6.keyOf kk key = key := if_neg h
    rw [if_neg (by omega), e]
    exact hmac_j key s (by omega) (by omega) k hkk
end Go.Proofs.YtgdcafbdkidamaaGreatDoor.Hp
end
section
namespace Go.Proofs.YtgdcafbdkidamaaGreatDoor.Hp
open Go Go.RowKit Go.Proofs.YtgdcafbdkidamaaGreatDoorW.PrintWords Go.Proofs.YtgdcafbdkidamaaGreatDoorW.PrintLast Go.Proofs.YtgdcafbdkidamaaGreatDoorW.PrintMore Go.Proofs.YtgdcafbdkidamaaGreatDoor.K0 Go.Proofs.YtgdcafbdkidamaaGreatDoor.K3 Go.Proofs.YtgdcafbdkidamaaGreatDoor.K4 Go.Proofs.YtgdcafbdkidamaaGreatDoor.K5 Go.Proofs.YtgdcafbdkidamaaGreatDoor.K6 Go.Proofs.YtgdcafbdkidamaaGreatDoor.K8 Go.Proofs.YtgdcafbdkidamaaGreatDoor.Ks Go.Proofs.YtgdcafbdkidamaaGreatDoor.KG2 Go.Proofs.YtgdcafbdkidamaaGreatDoor.KH2 Go.Proofs.YtgdcafbdkidamaaGreatDoor.B Go.Proofs.YtgdcafbdkidamaaGreatDoor.C
set_option linter.unusedVariables false
set_option linter.unusedSimpArgs false
theorem hm_three (key a b c : ByteArray) : hm kk key [a, b, c] = hm1 key ((a ++ b) ++ c) := by
  unfold hm1 hm
  have e1 : sbs [a, b, c] = sbs [(a ++ b) ++ c] := by simp [sbs, sb_app, List.append_assoc]
  have e2 : tot [a, b, c] = tot [(a ++ b) ++ c] := by simp only [tot, List.map_cons, List.map_nil, List.sum_cons, List.sum_nil, app_size]; omega
  rw [e1, e2]
def oS (key info : ByteArray) (j : Nat) : ByteArray := ⟨(oE kk key info j).toArray⟩
theorem oS_size (key info : ByteArray) (j : Nat) : (oS key info j).size = 32 * j := by show (oE kk key info j).toArray.size = _; rw [List.size_toArray, oE_len]
theorem oS_succ (key info : ByteArray) (j : Nat) : oS key info (j + 1) = oS key info j ++ tE kk key info (j + 1) := by
  apply str_eq
  rw [sb_app]
  unfold oS sb
  rw [oE, List.map_append]
theorem exp_go (key info : ByteArray) (n : Nat) (hn : n ≤ 8160) (hk : key.size < 274877906944) (hi : info.size < 68719476736) : ∀ (d j k : Nat), n ≤ 32 * (j + d) → 32 * j < n + 32 → d + 500 < k →
    spec_Expand.l0 k key info n (oS key info j) (tE kk key info j) (1 + (j : Int)) = some (exp1 key info n, true)
  | 0, j, k, h1, h2, hd => by
    obtain ⟨k, rfl⟩ : ∃ i, k = i + 1 := ⟨k - 1, by omega⟩
    rw [spec_Expand.l0, oS_size, if_neg (by omega), if_pos (by omega), if_pos (by omega)]
    have e : (n + 31) / 32 = j := by omega
    rw [exp1, e, Int.toNat_natCast]
    congr 2
    unfold oS
    rw [ByteArray.extract_mk]; simp
  | d + 1, j, k, h1, h2, hd => by
    obtain ⟨k, rfl⟩ : ∃ i, k = i + 1 := ⟨k - 1, by omega⟩
    rw [spec_Expand.l0, oS_size]
    by_cases h : 32 * j < n
    · have ht := tE_size kk key info j
      have hb : (strOfNums [(1 + (j : Int)) % 256]).size = 1 := rfl
      have hap := app_size (tE kk key info j) info
      have hap2 := app_size (tE kk key info j ++ info) (strOfNums [(1 + (j : Int)) % 256])
      rw [if_pos (by omega), if_pos (by omega), Option.bind_some, if_pos (by omega), hmac_spec key _ hk (by omega) k (by omega), Option.bind_some]
      have e1 : (1 + (j : Int)) % 256 = 1 + (j : Int) := by omega
      rw [e1, ← hm_three]
      have e2 : hm kk key [tE kk key info j, info, strOfNums [1 + (j : Int)]] = tE kk key info (j + 1) := by rw [tE]
      rw [e2, if_pos (by have := tE_size kk key info (j + 1); omega), ← oS_succ, w64 (by omega) (by omega)]
      have ih := exp_go key info n hn hk hi d (j + 1) k (by omega) (by omega) (by omega)
      rw [show (1 : Int) + ((j + 1 : Nat) : Int) = 1 + (j : Int) + 1 by omega] at ih
      exact ih
    · rw [if_neg (by omega), if_pos (by omega), if_pos (by omega)]
      have e : (n + 31) / 32 = j := by omega
      rw [exp1, e, Int.toNat_natCast]
      congr 2
      unfold oS
      rw [ByteArray.extract_mk]; simp
theorem exp_spec (key info : ByteArray) (n : Int) (hk : key.size < 274877906944) (hi : info.size < 68719476736) : spec_Expand.f 2000 key info n = impl_Expand.f key info n := by
  unfold spec_Expand.f impl_Expand.f
  by_cases h1 : n < 0
  · rw [if_pos h1, if_pos h1, spec_Expand.j0, if_pos rfl]
  · rw [if_neg h1, if_neg h1]
    by_cases h2 : 8160 < n
    · rw [if_pos h2, spec_Expand.j0, if_pos (by simpa using h2)]
    · obtain ⟨m, rfl⟩ := Int.eq_ofNat_of_zero_le (a := n) (by omega)
      rw [if_neg h2, if_pos hk, if_pos (by omega), spec_Expand.j0, if_neg (by simpa using h2)]
      have := exp_go key info m (by omega) hk hi 255 0 1999 (by omega) (by omega) (by omega)
      exact this
end Go.Proofs.YtgdcafbdkidamaaGreatDoor.Hp
end
section
namespace Go.Proofs.YtgdcafbdkidamaaGreatDoor.C
open Go.Proofs.YtgdcafbdkidamaaGreatDoor.Sq Go.RowKit Go.Proofs.YtgdcafbdkidamaaGreatDoor.B Go.Proofs.YtgdcafbdkidamaaGreatDoor.H0 Go.Proofs.YtgdcafbdkidamaaGreatDoor.F0 Go.Proofs.YtgdcafbdkidamaaGreatDoor.KG2 Go.Proofs.YtgdcafbdkidamaaGreatDoorW.PrintWords Go.Proofs.YtgdcafbdkidamaaGreatDoorW.PrintLast Go.Proofs.YtgdcafbdkidamaaGreatDoorW.PrintMore Go.Proofs.YtgdcafbdkidamaaGreatDoor.Ve Go.Proofs.YtgdcafbdkidamaaGreatDoor.VeT Go.Proofs.YtgdcafbdkidamaaGreatDoor.VeE
attribute [local go_sem high] field_num_fieldP   -- for this text's walks alone
attribute [local go_sem] max2_int min2_int max_two min_two max_three min_three max_four min_four   -- for this text's walks alone
open Go
set_option linter.unusedVariables false
set_option linter.unusedSimpArgs false
mutual
def spec_ExpandMessage.j0 : Nat → ByteArray → ByteArray → Int → Bool → Option (ByteArray × Bool)
  | 0, _, _, _, _ => none
  | k + 1, x0, x1, x2, x33 => if x33 = true then (some ((⟨#[]⟩ : ByteArray), false)) else ((some (([((x1.size : Int)) % 256] : List Int) : List Int)).bind fun y101 => (if x1.size + (strOfNums y101).size ≤ 9223372036854775807 then ((spec_l1Long.f k 64 (⟨#[0]⟩ : ByteArray)).bind fun t104 => (if t104.size + x0.size ≤ 9223372036854775807 then ((some (([(wrap64 (Int.tdiv x2 256)) % 256, (x2) % 256, 0] : List Int) : List Int)).bind fun y105 => (if (t104 ++ x0).size + (strOfNums y105).size ≤ 9223372036854775807 then (if ((t104 ++ x0) ++ (strOfNums y105)).size + (x1 ++ (strOfNums y101)).size ≤ 9223372036854775807 then ((spec_Sha256.f (((t104 ++ x0) ++ (strOfNums y105)) ++ (x1 ++ (strOfNums y101)))).bind fun t108 => ((spec_l1Long.f k 32 (⟨#[0]⟩ : ByteArray)).bind fun t109 => (spec_ExpandMessage.l0 k x2 (x1 ++ (strOfNums y101)) t108 t109 (⟨#[]⟩ : ByteArray) 1))) else (none)) else (none))) else (none))) else (none)))
def spec_ExpandMessage.l0 : Nat → Int → ByteArray → ByteArray → ByteArray → ByteArray → Int → Option (ByteArray × Bool)
  | 0, _, _, _, _, _, _ => none
  | k + 1, x2, x8, x9, x10, x11, x12 => if (x11.size : Int) < x2 then ((spec_l4Both.f k x9 x10).bind fun t110 => ((some (([(x12) % 256] : List Int) : List Int)).bind fun y111 => (if t110.size + (strOfNums y111).size ≤ 9223372036854775807 then (if (t110 ++ (strOfNums y111)).size + x8.size ≤ 9223372036854775807 then ((spec_Sha256.f ((t110 ++ (strOfNums y111)) ++ x8)).bind fun t114 => (if x11.size + t114.size ≤ 9223372036854775807 then (spec_ExpandMessage.l0 k x2 x8 x9 t114 (x11 ++ t114) (wrap64 (x12 + 1))) else (none))) else (none)) else (none)))) else (if 0 ≤ x2 then (if x2 ≤ (x11.size : Int) then (some (x11.extract 0 (x2 : Int).toNat, true)) else (none)) else (none))
end
def spec_ExpandMessage.f (k : Nat) (a0 : ByteArray) (a1 : ByteArray) (a2 : Int) : Option (ByteArray × Bool) := if (a1.size : Int) < 1 then (spec_ExpandMessage.j0 k a0 a1 a2 true) else (if (a1.size : Int) > 255 then (spec_ExpandMessage.j0 k a0 a1 a2 true) else (if a2 < 1 then (spec_ExpandMessage.j0 k a0 a1 a2 true) else (if a2 > 8160 then (spec_ExpandMessage.j0 k a0 a1 a2 true) else (spec_ExpandMessage.j0 k a0 a1 a2 (decide ((a0.size : Int) > 65535))))))
set_option maxRecDepth 100000 in
set_option maxHeartbeats 8000000 in
theorem spec_ExpandMessage.calls (k : Nat) (a0 : ByteArray) (a1 : ByteArray) (a2 : Int) (r1 : ByteArray) (r2 : Bool) (w : World) (h : spec_ExpandMessage.f k a0 a1 a2 = some (r1, r2)) :
    Calls Tryz.prog 149 #[.string a0, .string a1, .int .i64 a2] w fun e w' => e = .returned (.tuple #[.string r1, .bool r2]) ∧ Below w.heap.size w w' := by
  unfold spec_ExpandMessage.f at h
  rcases k with _ | k
  · exfalso
    repeat' (split at h)
    all_goals simp [spec_ExpandMessage.j0] at h
  have no : ∀ b : Bool, b = true → spec_ExpandMessage.j0 (k + 1) a0 a1 a2 b = some (r1, r2) → r1 = ⟨#[]⟩ ∧ r2 = false := fun b hb h => by
    rw [spec_ExpandMessage.j0, if_pos hb] at h
    exact ⟨(Prod.mk.inj (Option.some.inj h)).1.symm, (Prod.mk.inj (Option.some.inj h)).2.symm⟩
  refine ve_fn (args := [.string a0, .string a1, .int .i64 a2]) Tryz.func149 rfl Tryz.ntmps149 rfl (good (Γ := fun _ => True) (fun _ _ => trivial)) ?_
  by_cases c1 : (a1.size : Int) < 1
  · rw [if_pos c1] at h; obtain ⟨rfl, rfl⟩ := no _ rfl h; clear h no
    repeat' (first | refine rbt ?_ | refine rbf ?_ | refine wn ?_ | refine wq ?_ | refine wc_plain ?_ | refine wc_draw ?_ | refine rZ ?_ | refine rD ?_ | refine ve8 ?_ | refine ve4 ?_ | refine ve3 ?_ | refine ve1 ?_ | refine ve2 ?_ | refine ve5 ?_ | refine ve6 ?_ | refine ve7 ?_ | refine ve9 ?_ | refine rA ?_ | refine rE ?_ | refine rC ?_ | refine rB ?_ | refine rG ?_ | refine rH ?_ | refine rI ?_ | refine rJ ?_ | refine rcb ?_ | refine wb ?_ | refine wk ?_ | refine we ?_ | exact wt | refine wr ?_ | refine rr1 ?_ | refine rr2 ?_ | exact fr | exact fe | refine wTs ?_ | refine wFs ?_ | refine rof ?_ | refine rof0 ?_)
  rw [if_neg c1] at h
  by_cases c2 : (a1.size : Int) > 255
  · rw [if_pos c2] at h; obtain ⟨rfl, rfl⟩ := no _ rfl h; clear h no
    repeat' (first | refine rbt ?_ | refine rbf ?_ | refine wn ?_ | refine wq ?_ | refine wc_plain ?_ | refine wc_draw ?_ | refine rZ ?_ | refine rD ?_ | refine ve8 ?_ | refine ve4 ?_ | refine ve3 ?_ | refine ve1 ?_ | refine ve2 ?_ | refine ve5 ?_ | refine ve6 ?_ | refine ve7 ?_ | refine ve9 ?_ | refine rA ?_ | refine rE ?_ | refine rC ?_ | refine rB ?_ | refine rG ?_ | refine rH ?_ | refine rI ?_ | refine rJ ?_ | refine rcb ?_ | refine wb ?_ | refine wk ?_ | refine we ?_ | exact wt | refine wr ?_ | refine rr1 ?_ | refine rr2 ?_ | exact fr | exact fe | refine wTs ?_ | refine wFs ?_ | refine rof ?_ | refine rof0 ?_)
  rw [if_neg c2] at h
  by_cases c3 : a2 < 1
  · rw [if_pos c3] at h; obtain ⟨rfl, rfl⟩ := no _ rfl h; clear h no
    repeat' (first | refine rbt ?_ | refine rbf ?_ | refine wn ?_ | refine wq ?_ | refine wc_plain ?_ | refine wc_draw ?_ | refine rZ ?_ | refine rD ?_ | refine ve8 ?_ | refine ve4 ?_ | refine ve3 ?_ | refine ve1 ?_ | refine ve2 ?_ | refine ve5 ?_ | refine ve6 ?_ | refine ve7 ?_ | refine ve9 ?_ | refine rA ?_ | refine rE ?_ | refine rC ?_ | refine rB ?_ | refine rG ?_ | refine rH ?_ | refine rI ?_ | refine rJ ?_ | refine rcb ?_ | refine wb ?_ | refine wk ?_ | refine we ?_ | exact wt | refine wr ?_ | refine rr1 ?_ | refine rr2 ?_ | exact fr | exact fe | refine wTs ?_ | refine wFs ?_ | refine rof ?_ | refine rof0 ?_)
  rw [if_neg c3] at h
  by_cases c4 : a2 > 8160
  · rw [if_pos c4] at h; obtain ⟨rfl, rfl⟩ := no _ rfl h; clear h no
    repeat' (first | refine rbt ?_ | refine rbf ?_ | refine wn ?_ | refine wq ?_ | refine wc_plain ?_ | refine wc_draw ?_ | refine rZ ?_ | refine rD ?_ | refine ve8 ?_ | refine ve4 ?_ | refine ve3 ?_ | refine ve1 ?_ | refine ve2 ?_ | refine ve5 ?_ | refine ve6 ?_ | refine ve7 ?_ | refine ve9 ?_ | refine rA ?_ | refine rE ?_ | refine rC ?_ | refine rB ?_ | refine rG ?_ | refine rH ?_ | refine rI ?_ | refine rJ ?_ | refine rcb ?_ | refine wb ?_ | refine wk ?_ | refine we ?_ | exact wt | refine wr ?_ | refine rr1 ?_ | refine rr2 ?_ | exact fr | exact fe | refine wTs ?_ | refine wFs ?_ | refine rof ?_ | refine rof0 ?_)
  rw [if_neg c4] at h
  by_cases c5 : (a0.size : Int) > 65535
  · rw [decide_eq_true c5] at h; obtain ⟨rfl, rfl⟩ := no _ rfl h; clear h no
    repeat' (first | refine rbt ?_ | refine rbf ?_ | refine wn ?_ | refine wq ?_ | refine wc_plain ?_ | refine wc_draw ?_ | refine rZ ?_ | refine rD ?_ | refine ve8 ?_ | refine ve4 ?_ | refine ve3 ?_ | refine ve1 ?_ | refine ve2 ?_ | refine ve5 ?_ | refine ve6 ?_ | refine ve7 ?_ | refine ve9 ?_ | refine rA ?_ | refine rE ?_ | refine rC ?_ | refine rB ?_ | refine rG ?_ | refine rH ?_ | refine rI ?_ | refine rJ ?_ | refine rcb ?_ | refine wb ?_ | refine wk ?_ | refine we ?_ | exact wt | refine wr ?_ | refine rr1 ?_ | refine rr2 ?_ | exact fr | exact fe | refine wTs ?_ | refine wFs ?_ | refine rof ?_ | refine rof0 ?_)
  rw [decide_eq_false c5, spec_ExpandMessage.j0, if_neg (by decide)] at h
  clear no
  simp only [Option.bind_some, ← u8_mod, ← i64_w] at h
  split at h
  case isFalse => cases h
  replace h := Option.bind_eq_some_iff.mp h
  obtain ⟨t1, e1, h⟩ := h
  split at h
  case isFalse => cases h
  split at h
  case isFalse => cases h
  split at h
  case isFalse => cases h
  replace h := Option.bind_eq_some_iff.mp h
  obtain ⟨t2, e2, h⟩ := h
  replace h := Option.bind_eq_some_iff.mp h
  obtain ⟨t3, e3, h⟩ := h
  have b5 : decide ((a0.size : Int) > 65535) = false := decide_eq_false c5
  clear c5
  rename_i z1 z2 z3 z4
  have hL1 : ∀ w, Calls Tryz.prog 86 #[.int .i64 64, .string ⟨#[0]⟩] w _ := fun w => drb (spec_l1Long.calls k 64 ⟨#[0]⟩ t1 w e1)
  have hL2 : ∀ w, Calls Tryz.prog 86 #[.int .i64 32, .string ⟨#[0]⟩] w _ := fun w => drb (spec_l1Long.calls k 32 ⟨#[0]⟩ t3 w e3)
  have hX := fun w => spec_Sha256.calls _ t2 w e2
  obtain ⟨o, ho⟩ : ∃ o : ByteArray, o = ⟨#[]⟩ := ⟨_, rfl⟩
  obtain ⟨e, he⟩ : ∃ e : Int, e = 1 := ⟨_, rfl⟩
  rw [← ho, ← he] at h
  replace h := Lib.hid h
  clear e1 e2 e3
  repeat' (first | refine rbt ?_ | refine rbf ?_ | refine wn ?_ | refine wq ?_ | refine wc_plain ?_ | refine wc_draw ?_ | refine rZ ?_ | refine rD ?_ | refine ve8 ?_ | refine ve4 ?_ | refine ve3 ?_ | refine ve1 ?_ | refine ve2 ?_ | refine ve5 ?_ | refine ve6 ?_ | refine ve7 ?_ | refine ve9 ?_ | refine rA ?_ | refine rE ?_ | refine rC ?_ | refine rB ?_ | refine rG ?_ | refine rH ?_ | refine rI ?_ | refine rJ ?_ | refine rcb ?_ | refine rc (fun w_ _ => hL1 w_) ?_ | refine rc (fun w_ _ => hL2 w_) ?_ | refine rc (fun w_ _ => hX w_) ?_ | refine rbs (ty := tBs) tU8 ?_ | refine rcv (fun g_ w_ hb_ => cvn [_] 1 rfl (by decide) g_ w_ hb_) ?_ | refine rcv (fun g_ w_ hb_ => cvn [_, _, _] 3 rfl (by decide) g_ w_ hb_) ?_ | refine wc_loop k ?_ | refine wb ?_ | refine wk ?_ | refine we ?_ | exact wt | refine wr ?_ | refine rr1 ?_ | refine rr2 ?_ | exact fr | exact fe | refine wTs ?_ | refine wFs ?_ | refine rof ?_ | refine rof0 ?_)
  clear hL1 hL2 hX b5
  generalize a1 ++ strOfNums [IntKind.u8.wrap (a1.size : Int)] = tg at *
  refine wl_inv (l := [(2, .v (.int .i64 a2)), (8, .v (.string tg)), (9, .v (.string t2)), (10, .v (.string t3)), (11, .v (.string o)), (12, .v (.int .i64 e))]) [2, 8, 9, 10, 11, 12] 0 ?_ (by subst ho he; rfl)
  clear ho he z1 z2 z3 z4
  induction k generalizing t3 o e with
  | zero => have h := h.out; simp [spec_ExpandMessage.l0] at h
  | succ k ih =>
    intro V
    refine wl_succ ?_
    have h := h.out
    rw [spec_ExpandMessage.l0] at h
    by_cases c : (o.size : Int) < a2
    · rw [if_pos c] at h
      replace h := Option.bind_eq_some_iff.mp h
      obtain ⟨u1, d1, h⟩ := h
      simp only [Option.bind_some, ← u8_mod, ← i64_w] at h
      split at h
      case isFalse => cases h
      split at h
      case isFalse => cases h
      replace h := Option.bind_eq_some_iff.mp h
      obtain ⟨u2, d2, h⟩ := h
      split at h
      case isFalse => cases h
      rename_i y1 y2 y3
      have hB : ∀ w, Calls Tryz.prog 162 #[.string t2, .string t3] w _ := fun w => spec_l4Both.calls k t2 t3 u1 w d1
      have hX := fun w => spec_Sha256.calls _ u2 w d2
      replace h := Lib.hid h
      clear d1 d2
      repeat' (first | refine rbt ?_ | refine rbf ?_ | refine wn ?_ | refine wq ?_ | refine wc_plain ?_ | refine wc_draw ?_ | refine rZ ?_ | refine rD ?_ | refine ve8 ?_ | refine ve4 ?_ | refine ve3 ?_ | refine ve1 ?_ | refine ve2 ?_ | refine ve5 ?_ | refine ve6 ?_ | refine ve7 ?_ | refine ve9 ?_ | refine rA ?_ | refine rE ?_ | refine rC ?_ | refine rB ?_ | refine rG ?_ | refine rH ?_ | refine rI ?_ | refine rJ ?_ | refine rcb ?_ | refine rc (fun w_ _ => hB w_) ?_ | refine rc (fun w_ _ => hX w_) ?_ | refine rbs (ty := tBs) tU8 ?_ | refine rcv (fun g_ w_ hb_ => cvn [_] 1 rfl (by decide) g_ w_ hb_) ?_ | refine wb ?_ | refine wk ?_ | refine we ?_ | exact wt | refine wr ?_ | refine rr1 ?_ | refine rr2 ?_ | exact fr | exact fe | refine wTs ?_ | refine wFs ?_ | refine rof ?_ | refine rof0 ?_)
      exact wl_inv (l := [(2, .v (.int .i64 a2)), (8, .v (.string tg)), (9, .v (.string t2)), (10, .v (.string u2)), (11, .v (.string (o ++ u2))), (12, .v (.int .i64 (IntKind.i64.wrap (e + 1))))]) [2, 8, 9, 10, 11, 12] 0 (ih _ _ _ h) (by rfl)
    · rw [if_neg c] at h
      split at h
      case isFalse => cases h
      split at h
      case isFalse => cases h
      obtain ⟨rfl, rfl⟩ := Prod.mk.inj (Option.some.inj h)
      clear h ih
      repeat' (first | refine rbt ?_ | refine rbf ?_ | refine wn ?_ | refine wq ?_ | refine wc_plain ?_ | refine wc_draw ?_ | refine rZ ?_ | refine rD ?_ | refine ve8 ?_ | refine ve4 ?_ | refine ve3 ?_ | refine ve1 ?_ | refine ve2 ?_ | refine ve5 ?_ | refine ve6 ?_ | refine ve7 ?_ | refine ve9 ?_ | refine rA ?_ | refine rE ?_ | refine rC ?_ | refine rB ?_ | refine rG ?_ | refine rH ?_ | refine rI ?_ | refine rJ ?_ | refine rcb ?_ | refine rsh ?_ | refine wb ?_ | refine wk ?_ | refine we ?_ | exact wt | refine wr ?_ | refine rr1 ?_ | refine rr2 ?_ | exact fr | exact fe | refine wTs ?_ | refine wFs ?_ | refine rof ?_ | refine rof0 ?_)

end Go.Proofs.YtgdcafbdkidamaaGreatDoor.C
end
