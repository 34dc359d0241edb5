/- What the proof of FnKeys leans on, part 10: cut out of the texts of this claim's making by a program (wip/tools/pack.py). -/
import Derived.Test.YtgdcafbdkidamaaGreatDoorKKeys1
import Derived.Test.YtgdcafbdkidamaaGreatDoorKKeys2
import Derived.Test.YtgdcafbdkidamaaGreatDoorKKeys3
import Derived.Test.YtgdcafbdkidamaaGreatDoorKKeys9
import Derived.Below
import Derived.KernelRfl
import Derived.WalkKit
section
namespace Go.Proofs.YtgdcafbdkidamaaGreatDoor.H0
open Go.RowKit Go.Proofs.YtgdcafbdkidamaaGreatDoorW.PrintWords
abbrev primefieldP : Int := 2305843009213693951
def bits_LeadingZeros64.f (a : Int) : Option Int := if 0 ≤ a then if a ≤ 18446744073709551615 then some (64 - (Lib.bitLen a.toNat : Int)) else none else none
theorem bits_LeadingZeros64.calls (a r : Int) (w : World) (h : bits_LeadingZeros64.f a = some r) :
    Calls Tryz.prog 159 #[.int .u64 a] w fun e w' => e = .returned (.int .i64 r) ∧ Drawn0 w w' := by
  unfold bits_LeadingZeros64.f at h
  split at h
  · split at h
    · obtain rfl := Option.some.inj h
      refine (Tryz.bits_LeadingZeros64 a w (by assumption) (by assumption)).mono ?_
      rintro e w' ⟨rfl, rfl⟩
      exact ⟨rfl, Drawn0.refl _⟩
    · cases h
  · cases h

def bits_Mul64.f (a b : Int) : Option (Int × Int) :=
  if 0 ≤ a then if a < 18446744073709551616 then if 0 ≤ b then if b < 18446744073709551616 then
    some (a * b / 18446744073709551616, a * b % 18446744073709551616) else none else none else none else none
theorem bits_Mul64.calls (a b r1 r2 : Int) (w : World) (h : bits_Mul64.f a b = some (r1, r2)) :
    Calls Tryz.prog 140 #[.int .u64 a, .int .u64 b] w fun e w' => e = .returned (.tuple #[.int .u64 r1, .int .u64 r2]) ∧ Drawn0 w w' := by
  unfold bits_Mul64.f at h
  split at h
  · split at h
    · split at h
      · split at h
        · rename_i h1 h2 h3 h4
          obtain ⟨rfl, rfl⟩ := Prod.mk.inj (Option.some.inj h)
          obtain ⟨x, rfl⟩ := Int.eq_ofNat_of_zero_le h1
          obtain ⟨y, rfl⟩ := Int.eq_ofNat_of_zero_le h3
          refine (Tryz.bits_Mul64 x y (by omega) (by omega) w).mono ?_
          rintro e w' ⟨rfl, rfl⟩
          exact ⟨by simp, Drawn0.refl _⟩
        · cases h
      · cases h
    · cases h
  · cases h
def impl_prime_impl_fieldP.f : Option Int := some primefieldP
theorem impl_prime_impl_fieldP.calls (r : Int) (w : World) (h : impl_prime_impl_fieldP.f = some r) :
    Calls Tryz.prog 143 #[] w fun e w' => e = .returned (.int .u64 r) ∧ Below w.heap.size w w' := by
  obtain rfl := Option.some.inj h
  have hm : ∀ k w, (method (k + 1) 147 (.agg #[]) "loop.example/s02095/impl.prime").run Tryz.prog w = .ok (210, .agg #[]) w := fun _ _ => by kernel_rfl
  go_enter Tryz.func143, Tryz.ntmps143
  go_wp2
  go_ret
  exact ⟨rfl, ((Below.refl _ _).alloc (Nat.le_refl _) _).alloc (by simp) _⟩
end Go.Proofs.YtgdcafbdkidamaaGreatDoor.H0
end
section
namespace Go.Proofs.YtgdcafbdkidamaaGreatDoor.Sq
open Go Go.RowKit Go.Proofs.YtgdcafbdkidamaaGreatDoorW.PrintWords Go.Proofs.YtgdcafbdkidamaaGreatDoorW.PrintLast
set_option linter.unusedVariables false
theorem hb_ {B : Nat} {w W : World} (h : Below B w W := by repeat (first | (with_reducible first | exact HB.out | apply below_alloc | apply pw_below_drewN | apply below_drew1) | exact HB.out)) : Below B w W := h
theorem ga_ {α : Type} {a b : α} (h : a = b := by (try simp only [List.map_toArray, List.map_cons, List.map_nil]); first | done | rfl | (simp only [List.length_drop, List.length_take]; rfl)) : a = b := h
theorem rs_ {α : Type} {a b : α} (h : a = b := by first | rfl | (simp; done) | (simp [*]; done)) : a = b := h
theorem as_ {p : Prop} (h : p := by first | (with_reducible assumption) | assumption) : p := h
theorem kr_ {α : Type} {d : Kd α} {e : Nat} {w W : World} {base : Nat} {ok : Nat → Prop} {v : Value} {xs : List α} (h0 : d.R e w base ok v xs) (h : d.R e w base ok v xs → d.R e W base ok v xs := by intro hh_; (with_reducible repeat (first | apply Kd.R_alloc | apply Kd.R_drewN | apply Kd.R_drew)); exact hh_) : d.R e W base ok v xs := h h0
variable {P : Program} {ops : Array Oper} {Q : Exit → Act → World → Prop} {md : Region.Mode} {S : World → Prop} {ds : List Nat}
def fBL : List Bool → Option (List Bool)
  | [] => some []
  | a :: r => match a, fBL r with
    | true, some q => some (true :: q)
    | false, some q => some (false :: q)
    | _, none => none
theorem fBL_eq : ∀ {a b : List Bool}, fBL a = some b → a = b
  | [], b, h => Option.some.inj h
  | x :: r, b, h => by
    unfold fBL at h
    cases hr : fBL r with
    | none => rw [hr] at h; cases x <;> cases h
    | some q => rw [hr] at h; rw [fBL_eq hr]; cases x <;> exact Option.some.inj h
theorem ss_ {id : Nat} {a : Act} {w : World} (n : Nat) (S : World → Prop) (ds : List Nat) {l : List Bool} (hS : S w.drew) (h : S w.drew → wpAnyLast P .any ops Q S ds n l.toArray a w.drew)
    (hm : P.follows .mixedOrders = true := by kernel_rfl) (hn : ops.size = n := by rfl) (hl : fBL (List.replicate n false) = some l := by rfl) : (Code.region id ops true).wp P Q a w :=
  start_ l.toArray hm hn (by rw [← fBL_eq hl, List.toArray_replicate]) hS h
theorem sp_ {T : Bool × List (List Nat × List Nat)} (i : Nat) {N : Tmp} {oi : Oper} {v : Value} {fuel : Nat} {l : Array Bool} {l' : List Bool} {a a' : Act} {w : World} (HT : Aside0 (rtab md ops = T)) (h : wpAnyLast P md ops Q S ds fuel l'.toArray a' w)
    (hl : fBL (l.toList.set i true) = some l' := by rfl) (hi : ops[i]? = some oi := by rfl) (hN : oi.dst = some N := by rfl) (hc : anyT T l.toList l'.toArray.toList i = true := by kernel_rfl)
    (hQ : ∀ c a w, Q (.panic c) (a.put oi.dst v) w → Q (.panic c) a w := by exact fun _ _ _ h => h) (hy : Yields P ops oi v a := by exact Or.inl ⟨by rfl, by intro w'; go_simp; with_reducible rfl⟩) (ha : a.put (some N) v = a' := by (simp only [Act.put, List.setIfInBounds_toArray, List.set_cons_zero, List.set_cons_succ, i64_w, i32_w]; rfl)) : wpAnyLast P md ops Q S ds (fuel + 1) l a w :=
  pure_ l'.toArray hi hN (any_of HT.out hc) hQ hy ha h
theorem st_ {T : Bool × List (List Nat × List Nat)} {B : List Nat} (i : Nat) {N : Tmp} {oi : Oper} {v : Value} {fuel : Nat} {l : Array Bool} {l' : List Bool} {a a' : Act} {w : World} (HT : Aside0 (rtab md ops = T)) (HW : Aside0 (waitsOk T.2 B = true)) (hS : S w)
    (h : wpAnyLast P md ops Q S ds fuel l'.toArray a' w)
    (hl : fBL (l.toList.set i true) = some l' := by rfl) (hi : ops[i]? = some oi := by rfl) (hN : oi.dst = some N := by rfl) (hw : Region.wanted oi (yielded ops a.tmps) = true := by rfl) (hy : ∀ w', S w' → (execOp a.eval oi).run P w' = .ok (.value v) w' := by intro w' hs_; (repeat (have hs0_ := hs_.1; replace hs_ := hs_.2)); go_simp; with_reducible rfl) (hc : takeW T B ds l.toList l'.toArray.toList i = true := by kernel_rfl)
    (hQ : ∀ c a w, Q (.panic c) (a.put oi.dst v) w → Q (.panic c) a w := by exact fun _ _ _ h => h) (ha : a.put (some N) v = a' := by (simp only [Act.put, List.setIfInBounds_toArray, List.set_cons_zero, List.set_cons_succ, i64_w, i32_w]; rfl)) : wpAnyLast P md ops Q S ds (fuel + 1) l a w :=
  take_ l'.toArray hi hN (take_ofW HT.out HW.out hc) hQ (Or.inl ⟨hw, hy⟩) hS ha h
theorem so_ {T : Bool × List (List Nat × List Nat)} (i : Nat) {N : Tmp} {oi : Oper} {fuel : Nat} {l : Array Bool} {l' : List Bool} {a : Act} {w : World} (HT : Aside0 (rtab md ops = T))
    (h : ∀ K : Act → World → Prop, Shut (∀ a' w', S w' → (S w' → wpAnyLast P md ops Q S ds fuel l'.toArray a' w') → K a' w') → if Region.wanted oi (yielded ops a.tmps) = true then Oper.wp P oi a w K Q else K (a.put (some N) undef) w)
    (hl : fBL (l.toList.set i true) = some l' := by rfl) (hi : ops[i]? = some oi := by rfl) (hN : oi.dst = some N := by rfl) (hc : (readyT T.2 l.toList == [i] && l.toList.set i true == l'.toArray.toList) = true := by kernel_rfl) (hd : i ∉ ds := by decide) : wpAnyLast P md ops Q S ds (fuel + 1) l a w :=
  one_ l'.toArray hi hN (one_of HT.out hc) hd h
end Go.Proofs.YtgdcafbdkidamaaGreatDoor.Sq
end
section
namespace Go.Proofs.YtgdcafbdkidamaaGreatDoor.G1
open Go Go.RowKit Go.Proofs.YtgdcafbdkidamaaGreatDoorW.PrintWords Go.Proofs.YtgdcafbdkidamaaGreatDoorW.PrintLast Go.Proofs.YtgdcafbdkidamaaGreatDoorW.PrintMore
/-- The zero point's variable. -/
def Z (w : World) : Prop := ∃ t fr, w.heap[0]? = some (.cells #[.int .u64 0, .int .u64 0, .bool true] t fr)
def G (w : World) : Prop := Z w
theorem G_of_heap {w W : World} (hG : G w) (h : W.heap[0]? = w.heap[0]?) : G W := by
  obtain ⟨t, fr, hz⟩ := hG
  exact ⟨t, fr, h.trans hz⟩
theorem G_lt {w : World} (hG : G w) : 0 < w.heap.size := by
  obtain ⟨t, fr, hz⟩ := hG
  exact (Array.getElem?_eq_some_iff.1 hz).1
theorem G_below {w W : World} (h : Below w.heap.size w W) (hG : G w) : G W := G_of_heap hG (h.block _ (G_lt hG))
end Go.Proofs.YtgdcafbdkidamaaGreatDoor.G1
end
