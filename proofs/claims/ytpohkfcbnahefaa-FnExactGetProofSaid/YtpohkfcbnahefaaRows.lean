/-
  No cell of these rows narrows 'for every input' (looked for: loops, veiled, ifaces, maps, wideKeys, modest, calm, conditions, laid).
  DERIVED. THE GIVEN ROWS OF THIS SEAT. 6 by the template 'for every input the law returns true; each argument reads behind the call as it read before'; 0 by the template 'total and deterministic' (their statements: YtpohkfcbnahefaaTotals.lean).
  GIVEN WITH THE SEED: the statements are not yours to turn. If you find one false, say at which input.
  Laid BY PROGRAM, IN A SANDBOX (cutbox-rows.mjs): the forced cells as the released guide's own fill.sh prints them over the translation a817068f5a7addd5… (all of the seat's roots in one cut). By AI agents, Wed Nov 11 2026. No macro, syntax, notation, axiom, sorry.
-/
import Derived.Test.YtpohkfcbnahefaaChecked
import GoSem.Claim
import GoSem.ClaimJoined
import GoSem.ClaimMapViews
import Derived.JoinedTies
import Derived.KernelRfl
namespace Go.Proofs.Ytpohkfcbnahefaa
/- THE CELL 'sum', in the pinned program and in every row, IS THE sha256 OF THE DUMP (.gsa) THAT YtpohkfcbnahefaaProg.lean LOADS. Nothing in Lean hashes anything: it is a label: what it is worth is what the hold of that sum in a sandbox is worth. -/
noncomputable def Try.pinned : Pinned := { name := "ytpohkfcbnahefaa", sum := "a817068f5a7addd557cdbb7ee8d08e36a79b493313e207ec98f02cb9a510633f", checked := Try.checked }
namespace Rows
def none {H : Type} : Left H := { results := [], args := [] }

/-- 'laws.FnExactConstants': WHATEVER THE INPUT: true; the input reads as it did. -/
def fnExactConstantsSpec : ChangeSpec := { name := "fnExactConstants", fn := fun _ => fun
  | [] => { results := [.lit (.bool true)], args := [] }
  | _ => none }
def fnExactConstantsRow : OpenClaim := { program := "ytpohkfcbnahefaa", sum := "a817068f5a7addd557cdbb7ee8d08e36a79b493313e207ec98f02cb9a510633f", func := "loop.example/s02095/laws.FnExactConstants", spec := "fnExactConstants", apart := false }
def FnExactConstantsSaid : Prop := fnExactConstantsRow.holds Try.pinned (OpenSpec.ofChange fnExactConstantsSpec)

/-- ITS FALSE NEIGHBOUR: 'it returns false'. Refute it at one input. -/
def fnExactConstantsWrong : ChangeSpec := { name := "fnExactConstants", fn := fun _ => fun
  | [] => { results := [.lit (.bool false)], args := [] }
  | _ => none }
def FnExactConstantsWrongFalsely : Prop := fnExactConstantsRow.holds Try.pinned (OpenSpec.ofChange fnExactConstantsWrong)

/-- 'laws.FnExactPutWord': WHATEVER THE INPUT: true; the input reads as it did. -/
def fnExactPutWordSpec : ChangeSpec := { name := "fnExactPutWord", fn := fun _ => fun
  | [d] => { results := [.lit (.bool true)], args := [d] }
  | _ => none }
def fnExactPutWordRow : OpenClaim := { program := "ytpohkfcbnahefaa", sum := "a817068f5a7addd557cdbb7ee8d08e36a79b493313e207ec98f02cb9a510633f", func := "loop.example/s02095/laws.FnExactPutWord", spec := "fnExactPutWord", apart := false }
def FnExactPutWordSaid : Prop := fnExactPutWordRow.holds Try.pinned (OpenSpec.ofChange fnExactPutWordSpec)

/-- ITS FALSE NEIGHBOUR: 'it returns false'. Refute it at one input. -/
def fnExactPutWordWrong : ChangeSpec := { name := "fnExactPutWord", fn := fun _ => fun
  | [d] => { results := [.lit (.bool false)], args := [d] }
  | _ => none }
def FnExactPutWordWrongFalsely : Prop := fnExactPutWordRow.holds Try.pinned (OpenSpec.ofChange fnExactPutWordWrong)

/-- 'laws.FnExactBase': WHATEVER THE INPUT: true; the input reads as it did. -/
def fnExactBaseSpec : ChangeSpec := { name := "fnExactBase", fn := fun _ => fun
  | [] => { results := [.lit (.bool true)], args := [] }
  | _ => none }
def fnExactBaseRow : OpenClaim := { program := "ytpohkfcbnahefaa", sum := "a817068f5a7addd557cdbb7ee8d08e36a79b493313e207ec98f02cb9a510633f", func := "loop.example/s02095/laws.FnExactBase", spec := "fnExactBase", apart := false }
def FnExactBaseSaid : Prop := fnExactBaseRow.holds Try.pinned (OpenSpec.ofChange fnExactBaseSpec)

/-- ITS FALSE NEIGHBOUR: 'it returns false'. Refute it at one input. -/
def fnExactBaseWrong : ChangeSpec := { name := "fnExactBase", fn := fun _ => fun
  | [] => { results := [.lit (.bool false)], args := [] }
  | _ => none }
def FnExactBaseWrongFalsely : Prop := fnExactBaseRow.holds Try.pinned (OpenSpec.ofChange fnExactBaseWrong)

/-- 'laws.FnExactPutProof': WHATEVER THE INPUT: true; the input reads as it did. -/
def fnExactPutProofSpec : ChangeSpec := { name := "fnExactPutProof", fn := fun _ => fun
  | [d] => { results := [.lit (.bool true)], args := [d] }
  | _ => none }
def fnExactPutProofRow : OpenClaim := { program := "ytpohkfcbnahefaa", sum := "a817068f5a7addd557cdbb7ee8d08e36a79b493313e207ec98f02cb9a510633f", func := "loop.example/s02095/laws.FnExactPutProof", spec := "fnExactPutProof", apart := false }
def FnExactPutProofSaid : Prop := fnExactPutProofRow.holds Try.pinned (OpenSpec.ofChange fnExactPutProofSpec)

/-- ITS FALSE NEIGHBOUR: 'it returns false'. Refute it at one input. -/
def fnExactPutProofWrong : ChangeSpec := { name := "fnExactPutProof", fn := fun _ => fun
  | [d] => { results := [.lit (.bool false)], args := [d] }
  | _ => none }
def FnExactPutProofWrongFalsely : Prop := fnExactPutProofRow.holds Try.pinned (OpenSpec.ofChange fnExactPutProofWrong)

/-- 'laws.FnExactGetScalar': WHATEVER THE INPUT: true; the input reads as it did. -/
def fnExactGetScalarSpec : ChangeSpec := { name := "fnExactGetScalar", fn := fun _ => fun
  | [d] => { results := [.lit (.bool true)], args := [d] }
  | _ => none }
def fnExactGetScalarRow : OpenClaim := { program := "ytpohkfcbnahefaa", sum := "a817068f5a7addd557cdbb7ee8d08e36a79b493313e207ec98f02cb9a510633f", func := "loop.example/s02095/laws.FnExactGetScalar", spec := "fnExactGetScalar", apart := false }
def FnExactGetScalarSaid : Prop := fnExactGetScalarRow.holds Try.pinned (OpenSpec.ofChange fnExactGetScalarSpec)

/-- ITS FALSE NEIGHBOUR: 'it returns false'. Refute it at one input. -/
def fnExactGetScalarWrong : ChangeSpec := { name := "fnExactGetScalar", fn := fun _ => fun
  | [d] => { results := [.lit (.bool false)], args := [d] }
  | _ => none }
def FnExactGetScalarWrongFalsely : Prop := fnExactGetScalarRow.holds Try.pinned (OpenSpec.ofChange fnExactGetScalarWrong)

/-- 'laws.FnExactGetProof': WHATEVER THE INPUT: true; the input reads as it did. -/
def fnExactGetProofSpec : ChangeSpec := { name := "fnExactGetProof", fn := fun _ => fun
  | [d] => { results := [.lit (.bool true)], args := [d] }
  | _ => none }
def fnExactGetProofRow : OpenClaim := { program := "ytpohkfcbnahefaa", sum := "a817068f5a7addd557cdbb7ee8d08e36a79b493313e207ec98f02cb9a510633f", func := "loop.example/s02095/laws.FnExactGetProof", spec := "fnExactGetProof", apart := false }
def FnExactGetProofSaid : Prop := fnExactGetProofRow.holds Try.pinned (OpenSpec.ofChange fnExactGetProofSpec)

/-- ITS FALSE NEIGHBOUR: 'it returns false'. Refute it at one input. -/
def fnExactGetProofWrong : ChangeSpec := { name := "fnExactGetProof", fn := fun _ => fun
  | [d] => { results := [.lit (.bool false)], args := [d] }
  | _ => none }
def FnExactGetProofWrongFalsely : Prop := fnExactGetProofRow.holds Try.pinned (OpenSpec.ofChange fnExactGetProofWrong)

/- THE SECOND FORM. 'bulk': how many values and letters a reading holds, each counted each time it is reached (what is shared counts as often as it is met; a slice's spare places count too). A statement '..UptoSaid' is the law's where the arguments, and the package variables that the reading takes, are together of bulk at most 1048576: NARROWER than '..Said'. Prove '..Said' where nothing that the law and all that it calls make is longer than what came in: it says more and counts as full. Else prove '..UptoSaid'. A law counts once. -/
mutual
def uptoBulk {H : Type} : DataW H → Nat
  | .lit (.string bytes) => bytes.length + 1
  | .lit _ => 1
  | .nil => 1
  | .ptr d => uptoBulk d + 1
  | .slice elems spare => uptoBulkAll elems + uptoBulkAll spare + 1
  | .agg parts => uptoBulkAll parts + 1
  | .iface _ d => uptoBulk d + 1
  | .map entries => uptoBulkEntries entries + 1
  | .held _ => 1
def uptoBulkAll {H : Type} : List (DataW H) → Nat
  | [] => 0
  | d :: r => uptoBulk d + uptoBulkAll r
def uptoBulkEntries {H : Type} : List (Lit × DataW H) → Nat
  | [] => 0
  | x :: r => uptoBulkEntry x + uptoBulkEntries r
def uptoBulkEntry {H : Type} : Lit × DataW H → Nat
  | (.string bytes, d) => bytes.length + uptoBulk d + 1
  | (_, d) => uptoBulk d + 1
 end
def uptoSmall : (H : Type) → List (DataW H) → Bool := fun _ ds => decide (uptoBulkAll ds ≤ 1048576)
def OpenSpec.upto (s : _root_.Go.ChangeSpec) : _root_.Go.OpenSpec := { _root_.Go.OpenSpec.ofChange s with cond := some uptoSmall }

/-- 'laws.FnExactConstants', WHERE WHAT IT READS IS OF BULK AT MOST 1048576: true; the input reads as it did. -/
def fnExactConstantsUptoRow : OpenClaim := { program := "ytpohkfcbnahefaa", sum := "a817068f5a7addd557cdbb7ee8d08e36a79b493313e207ec98f02cb9a510633f", func := "loop.example/s02095/laws.FnExactConstants", spec := "fnExactConstants", apart := false, narrowed := true }
def FnExactConstantsUptoSaid : Prop := fnExactConstantsUptoRow.holds Try.pinned (OpenSpec.upto fnExactConstantsSpec)

/-- 'laws.FnExactPutWord', WHERE WHAT IT READS IS OF BULK AT MOST 1048576: true; the input reads as it did. -/
def fnExactPutWordUptoRow : OpenClaim := { program := "ytpohkfcbnahefaa", sum := "a817068f5a7addd557cdbb7ee8d08e36a79b493313e207ec98f02cb9a510633f", func := "loop.example/s02095/laws.FnExactPutWord", spec := "fnExactPutWord", apart := false, narrowed := true }
def FnExactPutWordUptoSaid : Prop := fnExactPutWordUptoRow.holds Try.pinned (OpenSpec.upto fnExactPutWordSpec)

/-- 'laws.FnExactBase', WHERE WHAT IT READS IS OF BULK AT MOST 1048576: true; the input reads as it did. -/
def fnExactBaseUptoRow : OpenClaim := { program := "ytpohkfcbnahefaa", sum := "a817068f5a7addd557cdbb7ee8d08e36a79b493313e207ec98f02cb9a510633f", func := "loop.example/s02095/laws.FnExactBase", spec := "fnExactBase", apart := false, narrowed := true }
def FnExactBaseUptoSaid : Prop := fnExactBaseUptoRow.holds Try.pinned (OpenSpec.upto fnExactBaseSpec)

/-- 'laws.FnExactPutProof', WHERE WHAT IT READS IS OF BULK AT MOST 1048576: true; the input reads as it did. -/
def fnExactPutProofUptoRow : OpenClaim := { program := "ytpohkfcbnahefaa", sum := "a817068f5a7addd557cdbb7ee8d08e36a79b493313e207ec98f02cb9a510633f", func := "loop.example/s02095/laws.FnExactPutProof", spec := "fnExactPutProof", apart := false, narrowed := true }
def FnExactPutProofUptoSaid : Prop := fnExactPutProofUptoRow.holds Try.pinned (OpenSpec.upto fnExactPutProofSpec)

/-- 'laws.FnExactGetScalar', WHERE WHAT IT READS IS OF BULK AT MOST 1048576: true; the input reads as it did. -/
def fnExactGetScalarUptoRow : OpenClaim := { program := "ytpohkfcbnahefaa", sum := "a817068f5a7addd557cdbb7ee8d08e36a79b493313e207ec98f02cb9a510633f", func := "loop.example/s02095/laws.FnExactGetScalar", spec := "fnExactGetScalar", apart := false, narrowed := true }
def FnExactGetScalarUptoSaid : Prop := fnExactGetScalarUptoRow.holds Try.pinned (OpenSpec.upto fnExactGetScalarSpec)

/-- 'laws.FnExactGetProof', WHERE WHAT IT READS IS OF BULK AT MOST 1048576: true; the input reads as it did. -/
def fnExactGetProofUptoRow : OpenClaim := { program := "ytpohkfcbnahefaa", sum := "a817068f5a7addd557cdbb7ee8d08e36a79b493313e207ec98f02cb9a510633f", func := "loop.example/s02095/laws.FnExactGetProof", spec := "fnExactGetProof", apart := false, narrowed := true }
def FnExactGetProofUptoSaid : Prop := fnExactGetProofUptoRow.holds Try.pinned (OpenSpec.upto fnExactGetProofSpec)

end Rows
end Go.Proofs.Ytpohkfcbnahefaa
