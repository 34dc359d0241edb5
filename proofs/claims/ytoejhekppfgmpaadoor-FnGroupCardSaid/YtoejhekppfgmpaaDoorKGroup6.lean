/- What the proof of FnGroup leans on, part 6: cut out of the texts of this claim's making by a program (wip/tools/pack.py). -/
import Derived.Test.YtoejhekppfgmpaaDoorKGroup1
import Derived.Test.YtoejhekppfgmpaaDoorKGroup2
import Derived.Test.YtoejhekppfgmpaaDoorKGroup4
import Derived.Below
import Derived.KernelRfl
import Derived.WalkKit
section
namespace Go.Proofs.YtoejhekppfgmpaaDoor.H0
open Go.RowKit Go.Proofs.YtoejhekppfgmpaaDoorW.PrintWords
abbrev primefieldP : Int := 2305843009213693951
def bits_LeadingZeros64.f (a : Int) : Option Int := if 0 ≤ a then if a ≤ 18446744073709551615 then some (64 - (Lib.bitLen a.toNat : Int)) else none else none
theorem bits_LeadingZeros64.calls (a r : Int) (w : World) (h : bits_LeadingZeros64.f a = some r) :
    Calls Tryd.prog 165 #[.int .u64 a] w fun e w' => e = .returned (.int .i64 r) ∧ Drawn0 w w' := by
  unfold bits_LeadingZeros64.f at h
  split at h
  · split at h
    · obtain rfl := Option.some.inj h
      refine (Tryd.bits_LeadingZeros64 a w (by assumption) (by assumption)).mono ?_
      rintro e w' ⟨rfl, rfl⟩
      exact ⟨rfl, Drawn0.refl _⟩
    · cases h
  · cases h

def bits_Mul64.f (a b : Int) : Option (Int × Int) :=
  if 0 ≤ a then if a < 18446744073709551616 then if 0 ≤ b then if b < 18446744073709551616 then
    some (a * b / 18446744073709551616, a * b % 18446744073709551616) else none else none else none else none
theorem bits_Mul64.calls (a b r1 r2 : Int) (w : World) (h : bits_Mul64.f a b = some (r1, r2)) :
    Calls Tryd.prog 162 #[.int .u64 a, .int .u64 b] w fun e w' => e = .returned (.tuple #[.int .u64 r1, .int .u64 r2]) ∧ Drawn0 w w' := by
  unfold bits_Mul64.f at h
  split at h
  · split at h
    · split at h
      · split at h
        · rename_i h1 h2 h3 h4
          obtain ⟨rfl, rfl⟩ := Prod.mk.inj (Option.some.inj h)
          obtain ⟨x, rfl⟩ := Int.eq_ofNat_of_zero_le h1
          obtain ⟨y, rfl⟩ := Int.eq_ofNat_of_zero_le h3
          refine (Tryd.bits_Mul64 x y (by omega) (by omega) w).mono ?_
          rintro e w' ⟨rfl, rfl⟩
          exact ⟨by simp, Drawn0.refl _⟩
        · cases h
      · cases h
    · cases h
  · cases h
def impl_prime_impl_fieldP.f : Option Int := some primefieldP
theorem impl_prime_impl_fieldP.calls (r : Int) (w : World) (h : impl_prime_impl_fieldP.f = some r) :
    Calls Tryd.prog 111 #[] w fun e w' => e = .returned (.int .u64 r) ∧ Below w.heap.size w w' := by
  obtain rfl := Option.some.inj h
  have hm : ∀ k w, (method (k + 1) 104 (.agg #[]) "loop.example/s02095/impl.prime").run Tryd.prog w = .ok (207, .agg #[]) w := fun _ _ => by kernel_rfl
  go_enter Tryd.func111, Tryd.ntmps111
  go_wp2
  go_ret
  exact ⟨rfl, ((Below.refl _ _).alloc (Nat.le_refl _) _).alloc (by simp) _⟩
end Go.Proofs.YtoejhekppfgmpaaDoor.H0
end
section
namespace Go.Proofs.YtoejhekppfgmpaaDoor.G1
open Go Go.RowKit Go.Proofs.YtoejhekppfgmpaaDoorW.PrintWords Go.Proofs.YtoejhekppfgmpaaDoorW.PrintLast Go.Proofs.YtoejhekppfgmpaaDoorW.PrintMore
theorem blk_cellG {w : World} {g : Nat} {t : TypeId} {cs : Array Value} {fr : Nat × Nat} (h : w.heap[g]? = some (.cells cs t fr)) (i : Nat) : w.cell? ⟨g, i, none⟩ = cs[i]? := cell_of_row w g i cs t fr h
theorem blk_farG {w : World} {g : Nat} {o : Obj} (h : w.heap[g]? = some o) {p : Addr} (hp : g ≠ p.block) (u : Value) : (w.setCell p u).heap[g]? = some o := (Below.heap_setCell w p u g hp).trans h

/-- The zero point's variable. -/
def Z (w : World) : Prop := ∃ t fr, w.heap[0]? = some (.cells #[.int .u64 0, .int .u64 0, .bool true] t fr)
def G (w : World) : Prop := Z w
theorem G_of_heap {w W : World} (hG : G w) (h : W.heap[0]? = w.heap[0]?) : G W := by
  obtain ⟨t, fr, hz⟩ := hG
  exact ⟨t, fr, h.trans hz⟩
theorem G_lt {w : World} (hG : G w) : 0 < w.heap.size := by
  obtain ⟨t, fr, hz⟩ := hG
  exact (Array.getElem?_eq_some_iff.1 hz).1
theorem G_below {w W : World} (h : Below w.heap.size w W) (hG : G w) : G W := G_of_heap hG (h.block _ (G_lt hG))
theorem G_0 {w : World} (hG : G w) : ∃ t fr, w.heap[0]? = some (.cells #[.int .u64 0, .int .u64 0, .bool true] t fr) := hG
end Go.Proofs.YtoejhekppfgmpaaDoor.G1
end
