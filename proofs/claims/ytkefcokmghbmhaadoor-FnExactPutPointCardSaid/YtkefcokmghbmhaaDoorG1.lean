/- What the package variables that are only read hold, and that it stays so. -/
import Derived.Test.YtkefcokmghbmhaaDoorH0
namespace Go.Proofs.YtkefcokmghbmhaaDoor.G1
open Go Go.RowKit Go.Proofs.YtkefcokmghbmhaaDoorW.PrintWords Go.Proofs.YtkefcokmghbmhaaDoorW.PrintLast Go.Proofs.YtkefcokmghbmhaaDoorW.PrintMore
theorem blk_cellG {w : World} {g : Nat} {t : TypeId} {cs : Array Value} {fr : Nat × Nat} (h : w.heap[g]? = some (.cells cs t fr)) (i : Nat) : w.cell? ⟨g, i, none⟩ = cs[i]? := cell_of_row w g i cs t fr h
theorem blk_farG {w : World} {g : Nat} {o : Obj} (h : w.heap[g]? = some o) {p : Addr} (hp : g ≠ p.block) (u : Value) : (w.setCell p u).heap[g]? = some o := (Below.heap_setCell w p u g hp).trans h

/-- The zero point's variable. -/
def Z (w : World) : Prop := ∃ t fr, w.heap[0]? = some (.cells #[.int .u64 0, .int .u64 0, .bool true] t fr)
def G (w : World) : Prop := Z w
theorem G_of_heap {w W : World} (hG : G w) (h : W.heap[0]? = w.heap[0]?) : G W := by
  obtain ⟨t, fr, hz⟩ := hG
  exact ⟨t, fr, h.trans hz⟩
theorem G_lt {w : World} (hG : G w) : 0 < w.heap.size := by
  obtain ⟨t, fr, hz⟩ := hG
  exact (Array.getElem?_eq_some_iff.1 hz).1
theorem G_below {w W : World} (h : Below w.heap.size w W) (hG : G w) : G W := G_of_heap hG (h.block _ (G_lt hG))
theorem G_drewN {w : World} {n : Nat} (hG : G w) : G (w.drewN n) := hG
theorem G_drew {w : World} (hG : G w) : G (w.drew) := hG
theorem G_0 {w : World} (hG : G w) : ∃ t fr, w.heap[0]? = some (.cells #[.int .u64 0, .int .u64 0, .bool true] t fr) := hG
end Go.Proofs.YtkefcokmghbmhaaDoor.G1
