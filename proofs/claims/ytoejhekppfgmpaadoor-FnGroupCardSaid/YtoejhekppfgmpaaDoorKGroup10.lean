/- What the proof of FnGroup leans on, part 10: cut out of the texts of this claim's making by a program (wip/tools/pack.py). -/
import Derived.Test.YtoejhekppfgmpaaDoorKGroup7
import Derived.Test.YtoejhekppfgmpaaDoorKGroup8
import Derived.Test.YtoejhekppfgmpaaDoorKGroup9
import Derived.KernelRfl
import Derived.WalkKit
section
namespace Go.Proofs.YtoejhekppfgmpaaDoor.VeE
open Go Go.RowKit Go.Proofs.YtoejhekppfgmpaaDoorW.PrintWords Go.Proofs.YtoejhekppfgmpaaDoorW.PrintLast Go.Proofs.YtoejhekppfgmpaaDoor.Ve Go.Proofs.YtoejhekppfgmpaaDoor.VeT
set_option linter.unusedVariables false
set_option linter.unusedSimpArgs false
theorem eqN (d : Nat) (w : World) (x0 y0 : Int) :
    (Op.equalIn (d + 2) 94 (.agg #[.int .u64 x0]) (.agg #[.int .u64 y0])).run Tryd.prog w = .ok (x0 == y0) w := by
  refine eqA_of Tryd.underlying94 (by kernel_rfl) ?_
  exact eqf_last (by rfl) (by go_simp; rfl) (by go_simp; rfl) (by go_simp)
theorem eq_num {x y : Operand} {a b : Int} (w : World) : Sem.run Tryd.prog (do eqGuard .eql 94 x y (.agg #[.int .u64 a]) (.agg #[.int .u64 b]); binOp .eql 94 (.agg #[.int .u64 a]) (.agg #[.int .u64 b])) w = .ok (.bool (a == b)) w := by
  have hg : Tryd.prog.eqGuardType Tryd.prog.depth 94 = false := by kernel_rfl
  have h := eqN 9998 w a b
  simp [eqGuard, binOp, Op.equal, Op.maxDepth, hg, h]
theorem eqP (d : Nat) (w : World) (x0 y0 : Int) (x1 y1 : Int) (x2 y2 : Bool) :
    (Op.equalIn (d + 2) 25 (.agg #[.int .u64 x0, .int .u64 x1, .bool x2]) (.agg #[.int .u64 y0, .int .u64 y1, .bool y2])).run Tryd.prog w = .ok (x0 == y0 && (x1 == y1 && (x2 == y2))) w := by
  refine eqA_of Tryd.underlying25 (by kernel_rfl) ?_
  refine eqf_cons (by rfl) (by go_simp; rfl) (by go_simp; rfl) (by go_simp) ?_
  refine eqf_cons (by rfl) (by go_simp; rfl) (by go_simp; rfl) (by go_simp) ?_
  exact eqf_last (by rfl) (by go_simp; rfl) (by go_simp; rfl) (by go_simp)
theorem eq_pt {x y : Operand} {a b a' b' : Int} {c c' : Bool} (w : World) : Sem.run Tryd.prog (do eqGuard .eql 25 x y (.agg #[.int .u64 a, .int .u64 b, .bool c]) (.agg #[.int .u64 a', .int .u64 b', .bool c']); binOp .eql 25 (.agg #[.int .u64 a, .int .u64 b, .bool c]) (.agg #[.int .u64 a', .int .u64 b', .bool c'])) w = .ok (.bool (a == a' && (b == b' && (c == c')))) w := by
  have hg : Tryd.prog.eqGuardType Tryd.prog.depth 25 = false := by kernel_rfl
  have h := eqP 9998 w a a' b b' c c'
  simp [eqGuard, binOp, Op.equal, Op.maxDepth, hg, h]
theorem ne_pt {x y : Operand} {a b a' b' : Int} {c c' : Bool} (w : World) : Sem.run Tryd.prog (do eqGuard .neq 25 x y (.agg #[.int .u64 a, .int .u64 b, .bool c]) (.agg #[.int .u64 a', .int .u64 b', .bool c']); binOp .neq 25 (.agg #[.int .u64 a, .int .u64 b, .bool c]) (.agg #[.int .u64 a', .int .u64 b', .bool c'])) w = .ok (.bool (!(a == a' && (b == b' && (c == c'))))) w := by
  have hg : Tryd.prog.eqGuardType Tryd.prog.depth 25 = false := by kernel_rfl
  have h := eqP 9998 w a a' b b' c c'
  simp [eqGuard, binOp, Op.equal, Op.maxDepth, hg, h]
theorem ld_zero {w : World} (h : ∃ t fr, w.heap[0]? = some (.cells #[.int .u64 0, .int .u64 0, .bool true] t fr)) : (loadVar 25 ⟨0, 0, none⟩).run Tryd.prog w = .ok (.agg #[.int .u64 0, .int .u64 0, .bool true]) w := by
  obtain ⟨t, fr, h⟩ := h
  exact run_loadVar_row w _ t _ _ fr _ h Tryd.underlying25 rfl (by kernel_rfl)
end Go.Proofs.YtoejhekppfgmpaaDoor.VeE
end
