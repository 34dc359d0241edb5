/- What the proof of FnKeys leans on, part 8: cut out of the texts of this claim's making by a program (wip/tools/pack.py). -/
import Derived.Test.YtgdcafbdkidamaaGreatDoorKKeys5
import Derived.Test.YtgdcafbdkidamaaGreatDoorKKeys6
import Derived.Test.YtgdcafbdkidamaaGreatDoorKKeys7
import Derived.KernelRfl
import Derived.WalkKit
section
namespace Go.Proofs.YtgdcafbdkidamaaGreatDoor.VeE
open Go Go.RowKit Go.Proofs.YtgdcafbdkidamaaGreatDoorW.PrintWords Go.Proofs.YtgdcafbdkidamaaGreatDoorW.PrintLast Go.Proofs.YtgdcafbdkidamaaGreatDoor.Ve Go.Proofs.YtgdcafbdkidamaaGreatDoor.VeT
set_option linter.unusedVariables false
set_option linter.unusedSimpArgs false
theorem eqN (d : Nat) (w : World) (x0 y0 : Int) :
    (Op.equalIn (d + 2) 101 (.agg #[.int .u64 x0]) (.agg #[.int .u64 y0])).run Tryz.prog w = .ok (x0 == y0) w := by
  refine eqA_of Tryz.underlying101 (by kernel_rfl) ?_
  exact eqf_last (by rfl) (by go_simp; rfl) (by go_simp; rfl) (by go_simp)
theorem eq_num {x y : Operand} {a b : Int} (w : World) : Sem.run Tryz.prog (do eqGuard .eql 101 x y (.agg #[.int .u64 a]) (.agg #[.int .u64 b]); binOp .eql 101 (.agg #[.int .u64 a]) (.agg #[.int .u64 b])) w = .ok (.bool (a == b)) w := by
  have hg : Tryz.prog.eqGuardType Tryz.prog.depth 101 = false := by kernel_rfl
  have h := eqN 9998 w a b
  simp [eqGuard, binOp, Op.equal, Op.maxDepth, hg, h]
theorem eqP (d : Nat) (w : World) (x0 y0 : Int) (x1 y1 : Int) (x2 y2 : Bool) :
    (Op.equalIn (d + 2) 27 (.agg #[.int .u64 x0, .int .u64 x1, .bool x2]) (.agg #[.int .u64 y0, .int .u64 y1, .bool y2])).run Tryz.prog w = .ok (x0 == y0 && (x1 == y1 && (x2 == y2))) w := by
  refine eqA_of Tryz.underlying27 (by kernel_rfl) ?_
  refine eqf_cons (by rfl) (by go_simp; rfl) (by go_simp; rfl) (by go_simp) ?_
  refine eqf_cons (by rfl) (by go_simp; rfl) (by go_simp; rfl) (by go_simp) ?_
  exact eqf_last (by rfl) (by go_simp; rfl) (by go_simp; rfl) (by go_simp)
theorem eq_pt {x y : Operand} {a b a' b' : Int} {c c' : Bool} (w : World) : Sem.run Tryz.prog (do eqGuard .eql 27 x y (.agg #[.int .u64 a, .int .u64 b, .bool c]) (.agg #[.int .u64 a', .int .u64 b', .bool c']); binOp .eql 27 (.agg #[.int .u64 a, .int .u64 b, .bool c]) (.agg #[.int .u64 a', .int .u64 b', .bool c'])) w = .ok (.bool (a == a' && (b == b' && (c == c')))) w := by
  have hg : Tryz.prog.eqGuardType Tryz.prog.depth 27 = false := by kernel_rfl
  have h := eqP 9998 w a a' b b' c c'
  simp [eqGuard, binOp, Op.equal, Op.maxDepth, hg, h]
theorem ne_pt {x y : Operand} {a b a' b' : Int} {c c' : Bool} (w : World) : Sem.run Tryz.prog (do eqGuard .neq 27 x y (.agg #[.int .u64 a, .int .u64 b, .bool c]) (.agg #[.int .u64 a', .int .u64 b', .bool c']); binOp .neq 27 (.agg #[.int .u64 a, .int .u64 b, .bool c]) (.agg #[.int .u64 a', .int .u64 b', .bool c'])) w = .ok (.bool (!(a == a' && (b == b' && (c == c'))))) w := by
  have hg : Tryz.prog.eqGuardType Tryz.prog.depth 27 = false := by kernel_rfl
  have h := eqP 9998 w a a' b b' c c'
  simp [eqGuard, binOp, Op.equal, Op.maxDepth, hg, h]
theorem ld_zero {w : World} (h : ∃ t fr, w.heap[0]? = some (.cells #[.int .u64 0, .int .u64 0, .bool true] t fr)) : (loadVar 27 ⟨0, 0, none⟩).run Tryz.prog w = .ok (.agg #[.int .u64 0, .int .u64 0, .bool true]) w := by
  obtain ⟨t, fr, h⟩ := h
  exact run_loadVar_row w _ t _ _ fr _ h Tryz.underlying27 rfl (by kernel_rfl)
end Go.Proofs.YtgdcafbdkidamaaGreatDoor.VeE
end
