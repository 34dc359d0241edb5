/-
  NARROWER THAN 'FOR EVERY INPUT', by the rows' own cells (each row's printed sentence says how): FnExactSha256: laid · FnExactHmac: laid · FnExactExtract: laid · FnExactExpandMessage: laid · FnExactExpand: laid · FnGroup: laid · FnExactHashToScalar: laid · FnExactPutMessage: laid · FnExactHashToField: laid · FnExactAgree: laid · FnHash: laid.
  DERIVED. THE GIVEN ROWS OF THIS SEAT. 11 by the template 'for every input the law returns true; each argument reads behind the call as it read before'; 0 by the template 'total and deterministic' (their statements: YtjiggakpnkchhaaDoorTotals.lean).
  GIVEN WITH THE SEED: the statements are not yours to turn. If you find one false, say at which input.
  Laid BY PROGRAM, IN A SANDBOX (cutbox-rows.mjs): the forced cells as the released guide's own fill.sh prints them over the translation cbe080117c0ef7e0… (all of the seat's roots in one cut). By AI agents, Wed Nov 11 2026. No macro, syntax, notation, axiom, sorry.
-/
import Derived.Test.YtjiggakpnkchhaaDoorChecked
import GoSem.Claim
import GoSem.ClaimJoined
import GoSem.ClaimMapViews
import Derived.JoinedTies
import Derived.KernelRfl
namespace Go.Proofs.YtjiggakpnkchhaaDoor
/- THE CELL 'sum', in the pinned program and in every row, IS THE sha256 OF THE DUMP (.gsa) THAT YtjiggakpnkchhaaDoorProg.lean LOADS. Nothing in Lean hashes anything: it is a label: what it is worth is what the hold of that sum in a sandbox is worth. -/
noncomputable def Tryd.pinned : Pinned := { name := "ytjiggakpnkchhaadoor", sum := "cbe080117c0ef7e0a54976dfadaf232bef9eecadf734c6465393fc4285d0b547", checked := Tryd.checked }
namespace Rows
def none {H : Type} : Left H := { results := [], args := [] }

/- WHAT THE LISTED PACKAGE-LEVEL VARIABLES READ AS WHEN THE CALL BEGINS. Each datum BY PROGRAM (the guide's laid-datum.mjs) off the statement by which the dump's own 'gosem.cut.vars' lays the variable. In a bare row this is a premise. The card (YtjiggakpnkchhaaDoorCards.lean) ties it to the program's text. -/
def laid_loop_example_s02095_impl_roundWords {H : Type} : DataW H := .agg [.lit (.int .u32 1116352408), .lit (.int .u32 1899447441), .lit (.int .u32 3049323471), .lit (.int .u32 3921009573), .lit (.int .u32 961987163), .lit (.int .u32 1508970993), .lit (.int .u32 2453635748), .lit (.int .u32 2870763221), .lit (.int .u32 3624381080), .lit (.int .u32 310598401), .lit (.int .u32 607225278), .lit (.int .u32 1426881987), .lit (.int .u32 1925078388), .lit (.int .u32 2162078206), .lit (.int .u32 2614888103), .lit (.int .u32 3248222580), .lit (.int .u32 3835390401), .lit (.int .u32 4022224774), .lit (.int .u32 264347078), .lit (.int .u32 604807628), .lit (.int .u32 770255983), .lit (.int .u32 1249150122), .lit (.int .u32 1555081692), .lit (.int .u32 1996064986), .lit (.int .u32 2554220882), .lit (.int .u32 2821834349), .lit (.int .u32 2952996808), .lit (.int .u32 3210313671), .lit (.int .u32 3336571891), .lit (.int .u32 3584528711), .lit (.int .u32 113926993), .lit (.int .u32 338241895), .lit (.int .u32 666307205), .lit (.int .u32 773529912), .lit (.int .u32 1294757372), .lit (.int .u32 1396182291), .lit (.int .u32 1695183700), .lit (.int .u32 1986661051), .lit (.int .u32 2177026350), .lit (.int .u32 2456956037), .lit (.int .u32 2730485921), .lit (.int .u32 2820302411), .lit (.int .u32 3259730800), .lit (.int .u32 3345764771), .lit (.int .u32 3516065817), .lit (.int .u32 3600352804), .lit (.int .u32 4094571909), .lit (.int .u32 275423344), .lit (.int .u32 430227734), .lit (.int .u32 506948616), .lit (.int .u32 659060556), .lit (.int .u32 883997877), .lit (.int .u32 958139571), .lit (.int .u32 1322822218), .lit (.int .u32 1537002063), .lit (.int .u32 1747873779), .lit (.int .u32 1955562222), .lit (.int .u32 2024104815), .lit (.int .u32 2227730452), .lit (.int .u32 2361852424), .lit (.int .u32 2428436474), .lit (.int .u32 2756734187), .lit (.int .u32 3204031479), .lit (.int .u32 3329325298)]
def laid_loop_example_s02095_impl_zero {H : Type} : DataW H := .agg [.lit (.int .u64 0), .lit (.int .u64 0), .lit (.bool true)]

/-- 'laws.FnExactSha256': WHATEVER THE INPUT: true; the input reads as it did. -/
def fnExactSha256Spec : ChangeSpec := { name := "fnExactSha256", vars := ["loop.example/s02095/impl.roundWords"], fn := fun _ => fun
  | [d, g1] => { results := [.lit (.bool true)], args := [d], vars := [g1] }
  | _ => none }
def fnExactSha256Row : OpenClaim := { program := "ytjiggakpnkchhaadoor", sum := "cbe080117c0ef7e0a54976dfadaf232bef9eecadf734c6465393fc4285d0b547", func := "loop.example/s02095/laws.FnExactSha256", spec := "fnExactSha256", inPlace := ["internal/abi.NoEscape", "internal/bytealg.MakeNoZero"], unfollowed := true, recurses := true, named := ["loop.example/s02095/impl.roundWords"], apart := false, laid := [("loop.example/s02095/impl.roundWords", laid_loop_example_s02095_impl_roundWords)] }
def FnExactSha256Said : Prop := fnExactSha256Row.holds Tryd.pinned (OpenSpec.ofChange fnExactSha256Spec)

/-- ITS FALSE NEIGHBOUR: 'it returns false'. Refute it at one input. -/
def fnExactSha256Wrong : ChangeSpec := { name := "fnExactSha256", vars := ["loop.example/s02095/impl.roundWords"], fn := fun _ => fun
  | [d, g1] => { results := [.lit (.bool false)], args := [d], vars := [g1] }
  | _ => none }
def FnExactSha256WrongFalsely : Prop := fnExactSha256Row.holds Tryd.pinned (OpenSpec.ofChange fnExactSha256Wrong)

/-- 'laws.FnExactHmac': WHATEVER THE INPUT: true; the input reads as it did. -/
def fnExactHmacSpec : ChangeSpec := { name := "fnExactHmac", vars := ["loop.example/s02095/impl.roundWords"], fn := fun _ => fun
  | [d1, d2, g1] => { results := [.lit (.bool true)], args := [d1, d2], vars := [g1] }
  | _ => none }
def fnExactHmacRow : OpenClaim := { program := "ytjiggakpnkchhaadoor", sum := "cbe080117c0ef7e0a54976dfadaf232bef9eecadf734c6465393fc4285d0b547", func := "loop.example/s02095/laws.FnExactHmac", spec := "fnExactHmac", inPlace := ["internal/abi.NoEscape", "internal/bytealg.MakeNoZero"], unfollowed := true, recurses := true, named := ["loop.example/s02095/impl.roundWords"], apart := false, laid := [("loop.example/s02095/impl.roundWords", laid_loop_example_s02095_impl_roundWords)] }
def FnExactHmacSaid : Prop := fnExactHmacRow.holds Tryd.pinned (OpenSpec.ofChange fnExactHmacSpec)

/-- ITS FALSE NEIGHBOUR: 'it returns false'. Refute it at one input. -/
def fnExactHmacWrong : ChangeSpec := { name := "fnExactHmac", vars := ["loop.example/s02095/impl.roundWords"], fn := fun _ => fun
  | [d1, d2, g1] => { results := [.lit (.bool false)], args := [d1, d2], vars := [g1] }
  | _ => none }
def FnExactHmacWrongFalsely : Prop := fnExactHmacRow.holds Tryd.pinned (OpenSpec.ofChange fnExactHmacWrong)

/-- 'laws.FnExactExtract': WHATEVER THE INPUT: true; the input reads as it did. -/
def fnExactExtractSpec : ChangeSpec := { name := "fnExactExtract", vars := ["loop.example/s02095/impl.roundWords"], fn := fun _ => fun
  | [d1, d2, g1] => { results := [.lit (.bool true)], args := [d1, d2], vars := [g1] }
  | _ => none }
def fnExactExtractRow : OpenClaim := { program := "ytjiggakpnkchhaadoor", sum := "cbe080117c0ef7e0a54976dfadaf232bef9eecadf734c6465393fc4285d0b547", func := "loop.example/s02095/laws.FnExactExtract", spec := "fnExactExtract", inPlace := ["internal/abi.NoEscape", "internal/bytealg.MakeNoZero"], unfollowed := true, recurses := true, named := ["loop.example/s02095/impl.roundWords"], apart := false, laid := [("loop.example/s02095/impl.roundWords", laid_loop_example_s02095_impl_roundWords)] }
def FnExactExtractSaid : Prop := fnExactExtractRow.holds Tryd.pinned (OpenSpec.ofChange fnExactExtractSpec)

/-- ITS FALSE NEIGHBOUR: 'it returns false'. Refute it at one input. -/
def fnExactExtractWrong : ChangeSpec := { name := "fnExactExtract", vars := ["loop.example/s02095/impl.roundWords"], fn := fun _ => fun
  | [d1, d2, g1] => { results := [.lit (.bool false)], args := [d1, d2], vars := [g1] }
  | _ => none }
def FnExactExtractWrongFalsely : Prop := fnExactExtractRow.holds Tryd.pinned (OpenSpec.ofChange fnExactExtractWrong)

/-- 'laws.FnExactExpandMessage': WHATEVER THE INPUT: true; the input reads as it did. -/
def fnExactExpandMessageSpec : ChangeSpec := { name := "fnExactExpandMessage", vars := ["loop.example/s02095/impl.roundWords"], fn := fun _ => fun
  | [d1, d2, d3, g1] => { results := [.lit (.bool true)], args := [d1, d2, d3], vars := [g1] }
  | _ => none }
def fnExactExpandMessageRow : OpenClaim := { program := "ytjiggakpnkchhaadoor", sum := "cbe080117c0ef7e0a54976dfadaf232bef9eecadf734c6465393fc4285d0b547", func := "loop.example/s02095/laws.FnExactExpandMessage", spec := "fnExactExpandMessage", inPlace := ["internal/abi.NoEscape", "internal/bytealg.MakeNoZero"], unfollowed := true, recurses := true, named := ["loop.example/s02095/impl.roundWords"], apart := false, laid := [("loop.example/s02095/impl.roundWords", laid_loop_example_s02095_impl_roundWords)] }
def FnExactExpandMessageSaid : Prop := fnExactExpandMessageRow.holds Tryd.pinned (OpenSpec.ofChange fnExactExpandMessageSpec)

/-- ITS FALSE NEIGHBOUR: 'it returns false'. Refute it at one input. -/
def fnExactExpandMessageWrong : ChangeSpec := { name := "fnExactExpandMessage", vars := ["loop.example/s02095/impl.roundWords"], fn := fun _ => fun
  | [d1, d2, d3, g1] => { results := [.lit (.bool false)], args := [d1, d2, d3], vars := [g1] }
  | _ => none }
def FnExactExpandMessageWrongFalsely : Prop := fnExactExpandMessageRow.holds Tryd.pinned (OpenSpec.ofChange fnExactExpandMessageWrong)

/-- 'laws.FnExactExpand': WHATEVER THE INPUT: true; the input reads as it did. -/
def fnExactExpandSpec : ChangeSpec := { name := "fnExactExpand", vars := ["loop.example/s02095/impl.roundWords"], fn := fun _ => fun
  | [d1, d2, d3, g1] => { results := [.lit (.bool true)], args := [d1, d2, d3], vars := [g1] }
  | _ => none }
def fnExactExpandRow : OpenClaim := { program := "ytjiggakpnkchhaadoor", sum := "cbe080117c0ef7e0a54976dfadaf232bef9eecadf734c6465393fc4285d0b547", func := "loop.example/s02095/laws.FnExactExpand", spec := "fnExactExpand", inPlace := ["internal/abi.NoEscape", "internal/bytealg.MakeNoZero"], unfollowed := true, recurses := true, named := ["loop.example/s02095/impl.roundWords"], apart := false, laid := [("loop.example/s02095/impl.roundWords", laid_loop_example_s02095_impl_roundWords)] }
def FnExactExpandSaid : Prop := fnExactExpandRow.holds Tryd.pinned (OpenSpec.ofChange fnExactExpandSpec)

/-- ITS FALSE NEIGHBOUR: 'it returns false'. Refute it at one input. -/
def fnExactExpandWrong : ChangeSpec := { name := "fnExactExpand", vars := ["loop.example/s02095/impl.roundWords"], fn := fun _ => fun
  | [d1, d2, d3, g1] => { results := [.lit (.bool false)], args := [d1, d2, d3], vars := [g1] }
  | _ => none }
def FnExactExpandWrongFalsely : Prop := fnExactExpandRow.holds Tryd.pinned (OpenSpec.ofChange fnExactExpandWrong)

/-- 'laws.FnGroup': WHATEVER THE INPUT: true; the input reads as it did. -/
def fnGroupSpec : ChangeSpec := { name := "fnGroup", vars := ["loop.example/s02095/impl.zero"], fn := fun _ => fun
  | [d1, d2, g1] => { results := [.lit (.bool true)], args := [d1, d2], vars := [g1] }
  | _ => none }
def fnGroupRow : OpenClaim := { program := "ytjiggakpnkchhaadoor", sum := "cbe080117c0ef7e0a54976dfadaf232bef9eecadf734c6465393fc4285d0b547", func := "loop.example/s02095/laws.FnGroup", spec := "fnGroup", unfollowed := true, recurses := true, named := ["loop.example/s02095/impl.zero", "math/bits.divideError", "math/bits.overflowError"], apart := false, laid := [("loop.example/s02095/impl.zero", laid_loop_example_s02095_impl_zero)] }
def FnGroupSaid : Prop := fnGroupRow.holds Tryd.pinned (OpenSpec.ofChange fnGroupSpec)

/-- ITS FALSE NEIGHBOUR: 'it returns false'. Refute it at one input. -/
def fnGroupWrong : ChangeSpec := { name := "fnGroup", vars := ["loop.example/s02095/impl.zero"], fn := fun _ => fun
  | [d1, d2, g1] => { results := [.lit (.bool false)], args := [d1, d2], vars := [g1] }
  | _ => none }
def FnGroupWrongFalsely : Prop := fnGroupRow.holds Tryd.pinned (OpenSpec.ofChange fnGroupWrong)

/-- 'laws.FnExactHashToScalar': WHATEVER THE INPUT: true; the input reads as it did. -/
def fnExactHashToScalarSpec : ChangeSpec := { name := "fnExactHashToScalar", vars := ["loop.example/s02095/impl.roundWords"], fn := fun _ => fun
  | [d1, d2, g1] => { results := [.lit (.bool true)], args := [d1, d2], vars := [g1] }
  | _ => none }
def fnExactHashToScalarRow : OpenClaim := { program := "ytjiggakpnkchhaadoor", sum := "cbe080117c0ef7e0a54976dfadaf232bef9eecadf734c6465393fc4285d0b547", func := "loop.example/s02095/laws.FnExactHashToScalar", spec := "fnExactHashToScalar", inPlace := ["internal/abi.NoEscape", "internal/bytealg.MakeNoZero"], unfollowed := true, recurses := true, named := ["loop.example/s02095/impl.roundWords", "math/bits.divideError", "math/bits.overflowError"], apart := false, laid := [("loop.example/s02095/impl.roundWords", laid_loop_example_s02095_impl_roundWords)] }
def FnExactHashToScalarSaid : Prop := fnExactHashToScalarRow.holds Tryd.pinned (OpenSpec.ofChange fnExactHashToScalarSpec)

/-- ITS FALSE NEIGHBOUR: 'it returns false'. Refute it at one input. -/
def fnExactHashToScalarWrong : ChangeSpec := { name := "fnExactHashToScalar", vars := ["loop.example/s02095/impl.roundWords"], fn := fun _ => fun
  | [d1, d2, g1] => { results := [.lit (.bool false)], args := [d1, d2], vars := [g1] }
  | _ => none }
def FnExactHashToScalarWrongFalsely : Prop := fnExactHashToScalarRow.holds Tryd.pinned (OpenSpec.ofChange fnExactHashToScalarWrong)

/-- 'laws.FnExactPutMessage': WHATEVER THE INPUT: true; the input reads as it did. -/
def fnExactPutMessageSpec : ChangeSpec := { name := "fnExactPutMessage", vars := ["loop.example/s02095/impl.zero"], fn := fun _ => fun
  | [d, g1] => { results := [.lit (.bool true)], args := [d], vars := [g1] }
  | _ => none }
def fnExactPutMessageRow : OpenClaim := { program := "ytjiggakpnkchhaadoor", sum := "cbe080117c0ef7e0a54976dfadaf232bef9eecadf734c6465393fc4285d0b547", func := "loop.example/s02095/laws.FnExactPutMessage", spec := "fnExactPutMessage", unfollowed := true, recurses := true, named := ["loop.example/s02095/impl.zero", "math/bits.divideError", "math/bits.overflowError"], apart := false, laid := [("loop.example/s02095/impl.zero", laid_loop_example_s02095_impl_zero)] }
def FnExactPutMessageSaid : Prop := fnExactPutMessageRow.holds Tryd.pinned (OpenSpec.ofChange fnExactPutMessageSpec)

/-- ITS FALSE NEIGHBOUR: 'it returns false'. Refute it at one input. -/
def fnExactPutMessageWrong : ChangeSpec := { name := "fnExactPutMessage", vars := ["loop.example/s02095/impl.zero"], fn := fun _ => fun
  | [d, g1] => { results := [.lit (.bool false)], args := [d], vars := [g1] }
  | _ => none }
def FnExactPutMessageWrongFalsely : Prop := fnExactPutMessageRow.holds Tryd.pinned (OpenSpec.ofChange fnExactPutMessageWrong)

/-- 'laws.FnExactHashToField': WHATEVER THE INPUT: true; the input reads as it did. -/
def fnExactHashToFieldSpec : ChangeSpec := { name := "fnExactHashToField", vars := ["loop.example/s02095/impl.roundWords"], fn := fun _ => fun
  | [d1, d2, d3, d4, g1] => { results := [.lit (.bool true)], args := [d1, d2, d3, d4], vars := [g1] }
  | _ => none }
def fnExactHashToFieldRow : OpenClaim := { program := "ytjiggakpnkchhaadoor", sum := "cbe080117c0ef7e0a54976dfadaf232bef9eecadf734c6465393fc4285d0b547", func := "loop.example/s02095/laws.FnExactHashToField", spec := "fnExactHashToField", inPlace := ["internal/abi.NoEscape", "internal/bytealg.MakeNoZero"], unfollowed := true, recurses := true, named := ["loop.example/s02095/impl.roundWords", "math/bits.divideError", "math/bits.overflowError"], apart := false, laid := [("loop.example/s02095/impl.roundWords", laid_loop_example_s02095_impl_roundWords)] }
def FnExactHashToFieldSaid : Prop := fnExactHashToFieldRow.holds Tryd.pinned (OpenSpec.ofChange fnExactHashToFieldSpec)

/-- ITS FALSE NEIGHBOUR: 'it returns false'. Refute it at one input. -/
def fnExactHashToFieldWrong : ChangeSpec := { name := "fnExactHashToField", vars := ["loop.example/s02095/impl.roundWords"], fn := fun _ => fun
  | [d1, d2, d3, d4, g1] => { results := [.lit (.bool false)], args := [d1, d2, d3, d4], vars := [g1] }
  | _ => none }
def FnExactHashToFieldWrongFalsely : Prop := fnExactHashToFieldRow.holds Tryd.pinned (OpenSpec.ofChange fnExactHashToFieldWrong)

/-- 'laws.FnExactAgree': WHATEVER THE INPUT: true; the input reads as it did. -/
def fnExactAgreeSpec : ChangeSpec := { name := "fnExactAgree", vars := ["loop.example/s02095/impl.zero", "loop.example/s02095/impl.roundWords"], fn := fun _ => fun
  | [d1, d2, d3, d4, g1, g2] => { results := [.lit (.bool true)], args := [d1, d2, d3, d4], vars := [g1, g2] }
  | _ => none }
def fnExactAgreeRow : OpenClaim := { program := "ytjiggakpnkchhaadoor", sum := "cbe080117c0ef7e0a54976dfadaf232bef9eecadf734c6465393fc4285d0b547", func := "loop.example/s02095/laws.FnExactAgree", spec := "fnExactAgree", inPlace := ["internal/abi.NoEscape", "internal/bytealg.MakeNoZero"], unfollowed := true, recurses := true, named := ["loop.example/s02095/impl.zero", "math/bits.divideError", "math/bits.overflowError", "loop.example/s02095/impl.roundWords"], apart := false, laid := [("loop.example/s02095/impl.roundWords", laid_loop_example_s02095_impl_roundWords), ("loop.example/s02095/impl.zero", laid_loop_example_s02095_impl_zero)] }
def FnExactAgreeSaid : Prop := fnExactAgreeRow.holds Tryd.pinned (OpenSpec.ofChange fnExactAgreeSpec)

/-- ITS FALSE NEIGHBOUR: 'it returns false'. Refute it at one input. -/
def fnExactAgreeWrong : ChangeSpec := { name := "fnExactAgree", vars := ["loop.example/s02095/impl.zero", "loop.example/s02095/impl.roundWords"], fn := fun _ => fun
  | [d1, d2, d3, d4, g1, g2] => { results := [.lit (.bool false)], args := [d1, d2, d3, d4], vars := [g1, g2] }
  | _ => none }
def FnExactAgreeWrongFalsely : Prop := fnExactAgreeRow.holds Tryd.pinned (OpenSpec.ofChange fnExactAgreeWrong)

/-- 'laws.FnHash': WHATEVER THE INPUT: true; the input reads as it did. -/
def fnHashSpec : ChangeSpec := { name := "fnHash", vars := ["loop.example/s02095/impl.roundWords"], fn := fun _ => fun
  | [d1, d2, g1] => { results := [.lit (.bool true)], args := [d1, d2], vars := [g1] }
  | _ => none }
def fnHashRow : OpenClaim := { program := "ytjiggakpnkchhaadoor", sum := "cbe080117c0ef7e0a54976dfadaf232bef9eecadf734c6465393fc4285d0b547", func := "loop.example/s02095/laws.FnHash", spec := "fnHash", inPlace := ["internal/abi.NoEscape", "internal/bytealg.MakeNoZero"], unfollowed := true, recurses := true, named := ["loop.example/s02095/impl.roundWords", "math/bits.divideError", "math/bits.overflowError"], apart := false, laid := [("loop.example/s02095/impl.roundWords", laid_loop_example_s02095_impl_roundWords)] }
def FnHashSaid : Prop := fnHashRow.holds Tryd.pinned (OpenSpec.ofChange fnHashSpec)

/-- ITS FALSE NEIGHBOUR: 'it returns false'. Refute it at one input. -/
def fnHashWrong : ChangeSpec := { name := "fnHash", vars := ["loop.example/s02095/impl.roundWords"], fn := fun _ => fun
  | [d1, d2, g1] => { results := [.lit (.bool false)], args := [d1, d2], vars := [g1] }
  | _ => none }
def FnHashWrongFalsely : Prop := fnHashRow.holds Tryd.pinned (OpenSpec.ofChange fnHashWrong)

/- THE SECOND FORM. 'bulk': how many values and letters a reading holds, each counted each time it is reached (what is shared counts as often as it is met; a slice's spare places count too). A statement '..UptoSaid' is the law's where the arguments, and the package variables that the reading takes, are together of bulk at most 1048576: NARROWER than '..Said'. Prove '..Said' where nothing that the law and all that it calls make is longer than what came in: it says more and counts as full. Else prove '..UptoSaid'. A law counts once. -/
mutual
def uptoBulk {H : Type} : DataW H → Nat
  | .lit (.string bytes) => bytes.length + 1
  | .lit _ => 1
  | .nil => 1
  | .ptr d => uptoBulk d + 1
  | .slice elems spare => uptoBulkAll elems + uptoBulkAll spare + 1
  | .agg parts => uptoBulkAll parts + 1
  | .iface _ d => uptoBulk d + 1
  | .map entries => uptoBulkEntries entries + 1
  | .held _ => 1
def uptoBulkAll {H : Type} : List (DataW H) → Nat
  | [] => 0
  | d :: r => uptoBulk d + uptoBulkAll r
def uptoBulkEntries {H : Type} : List (Lit × DataW H) → Nat
  | [] => 0
  | x :: r => uptoBulkEntry x + uptoBulkEntries r
def uptoBulkEntry {H : Type} : Lit × DataW H → Nat
  | (.string bytes, d) => bytes.length + uptoBulk d + 1
  | (_, d) => uptoBulk d + 1
 end
def uptoSmall : (H : Type) → List (DataW H) → Bool := fun _ ds => decide (uptoBulkAll ds ≤ 1048576)
def OpenSpec.upto (s : _root_.Go.ChangeSpec) : _root_.Go.OpenSpec := { _root_.Go.OpenSpec.ofChange s with cond := some uptoSmall }

/-- 'laws.FnExactSha256', WHERE WHAT IT READS IS OF BULK AT MOST 1048576: true; the input reads as it did. -/
def fnExactSha256UptoRow : OpenClaim := { program := "ytjiggakpnkchhaadoor", sum := "cbe080117c0ef7e0a54976dfadaf232bef9eecadf734c6465393fc4285d0b547", func := "loop.example/s02095/laws.FnExactSha256", spec := "fnExactSha256", inPlace := ["internal/abi.NoEscape", "internal/bytealg.MakeNoZero"], unfollowed := true, recurses := true, named := ["loop.example/s02095/impl.roundWords"], apart := false, laid := [("loop.example/s02095/impl.roundWords", laid_loop_example_s02095_impl_roundWords)], narrowed := true }
def FnExactSha256UptoSaid : Prop := fnExactSha256UptoRow.holds Tryd.pinned (OpenSpec.upto fnExactSha256Spec)

/-- 'laws.FnExactHmac', WHERE WHAT IT READS IS OF BULK AT MOST 1048576: true; the input reads as it did. -/
def fnExactHmacUptoRow : OpenClaim := { program := "ytjiggakpnkchhaadoor", sum := "cbe080117c0ef7e0a54976dfadaf232bef9eecadf734c6465393fc4285d0b547", func := "loop.example/s02095/laws.FnExactHmac", spec := "fnExactHmac", inPlace := ["internal/abi.NoEscape", "internal/bytealg.MakeNoZero"], unfollowed := true, recurses := true, named := ["loop.example/s02095/impl.roundWords"], apart := false, laid := [("loop.example/s02095/impl.roundWords", laid_loop_example_s02095_impl_roundWords)], narrowed := true }
def FnExactHmacUptoSaid : Prop := fnExactHmacUptoRow.holds Tryd.pinned (OpenSpec.upto fnExactHmacSpec)

/-- 'laws.FnExactExtract', WHERE WHAT IT READS IS OF BULK AT MOST 1048576: true; the input reads as it did. -/
def fnExactExtractUptoRow : OpenClaim := { program := "ytjiggakpnkchhaadoor", sum := "cbe080117c0ef7e0a54976dfadaf232bef9eecadf734c6465393fc4285d0b547", func := "loop.example/s02095/laws.FnExactExtract", spec := "fnExactExtract", inPlace := ["internal/abi.NoEscape", "internal/bytealg.MakeNoZero"], unfollowed := true, recurses := true, named := ["loop.example/s02095/impl.roundWords"], apart := false, laid := [("loop.example/s02095/impl.roundWords", laid_loop_example_s02095_impl_roundWords)], narrowed := true }
def FnExactExtractUptoSaid : Prop := fnExactExtractUptoRow.holds Tryd.pinned (OpenSpec.upto fnExactExtractSpec)

/-- 'laws.FnExactExpandMessage', WHERE WHAT IT READS IS OF BULK AT MOST 1048576: true; the input reads as it did. -/
def fnExactExpandMessageUptoRow : OpenClaim := { program := "ytjiggakpnkchhaadoor", sum := "cbe080117c0ef7e0a54976dfadaf232bef9eecadf734c6465393fc4285d0b547", func := "loop.example/s02095/laws.FnExactExpandMessage", spec := "fnExactExpandMessage", inPlace := ["internal/abi.NoEscape", "internal/bytealg.MakeNoZero"], unfollowed := true, recurses := true, named := ["loop.example/s02095/impl.roundWords"], apart := false, laid := [("loop.example/s02095/impl.roundWords", laid_loop_example_s02095_impl_roundWords)], narrowed := true }
def FnExactExpandMessageUptoSaid : Prop := fnExactExpandMessageUptoRow.holds Tryd.pinned (OpenSpec.upto fnExactExpandMessageSpec)

/-- 'laws.FnExactExpand', WHERE WHAT IT READS IS OF BULK AT MOST 1048576: true; the input reads as it did. -/
def fnExactExpandUptoRow : OpenClaim := { program := "ytjiggakpnkchhaadoor", sum := "cbe080117c0ef7e0a54976dfadaf232bef9eecadf734c6465393fc4285d0b547", func := "loop.example/s02095/laws.FnExactExpand", spec := "fnExactExpand", inPlace := ["internal/abi.NoEscape", "internal/bytealg.MakeNoZero"], unfollowed := true, recurses := true, named := ["loop.example/s02095/impl.roundWords"], apart := false, laid := [("loop.example/s02095/impl.roundWords", laid_loop_example_s02095_impl_roundWords)], narrowed := true }
def FnExactExpandUptoSaid : Prop := fnExactExpandUptoRow.holds Tryd.pinned (OpenSpec.upto fnExactExpandSpec)

/-- 'laws.FnGroup', WHERE WHAT IT READS IS OF BULK AT MOST 1048576: true; the input reads as it did. -/
def fnGroupUptoRow : OpenClaim := { program := "ytjiggakpnkchhaadoor", sum := "cbe080117c0ef7e0a54976dfadaf232bef9eecadf734c6465393fc4285d0b547", func := "loop.example/s02095/laws.FnGroup", spec := "fnGroup", unfollowed := true, recurses := true, named := ["loop.example/s02095/impl.zero", "math/bits.divideError", "math/bits.overflowError"], apart := false, laid := [("loop.example/s02095/impl.zero", laid_loop_example_s02095_impl_zero)], narrowed := true }
def FnGroupUptoSaid : Prop := fnGroupUptoRow.holds Tryd.pinned (OpenSpec.upto fnGroupSpec)

/-- 'laws.FnExactHashToScalar', WHERE WHAT IT READS IS OF BULK AT MOST 1048576: true; the input reads as it did. -/
def fnExactHashToScalarUptoRow : OpenClaim := { program := "ytjiggakpnkchhaadoor", sum := "cbe080117c0ef7e0a54976dfadaf232bef9eecadf734c6465393fc4285d0b547", func := "loop.example/s02095/laws.FnExactHashToScalar", spec := "fnExactHashToScalar", inPlace := ["internal/abi.NoEscape", "internal/bytealg.MakeNoZero"], unfollowed := true, recurses := true, named := ["loop.example/s02095/impl.roundWords", "math/bits.divideError", "math/bits.overflowError"], apart := false, laid := [("loop.example/s02095/impl.roundWords", laid_loop_example_s02095_impl_roundWords)], narrowed := true }
def FnExactHashToScalarUptoSaid : Prop := fnExactHashToScalarUptoRow.holds Tryd.pinned (OpenSpec.upto fnExactHashToScalarSpec)

/-- 'laws.FnExactPutMessage', WHERE WHAT IT READS IS OF BULK AT MOST 1048576: true; the input reads as it did. -/
def fnExactPutMessageUptoRow : OpenClaim := { program := "ytjiggakpnkchhaadoor", sum := "cbe080117c0ef7e0a54976dfadaf232bef9eecadf734c6465393fc4285d0b547", func := "loop.example/s02095/laws.FnExactPutMessage", spec := "fnExactPutMessage", unfollowed := true, recurses := true, named := ["loop.example/s02095/impl.zero", "math/bits.divideError", "math/bits.overflowError"], apart := false, laid := [("loop.example/s02095/impl.zero", laid_loop_example_s02095_impl_zero)], narrowed := true }
def FnExactPutMessageUptoSaid : Prop := fnExactPutMessageUptoRow.holds Tryd.pinned (OpenSpec.upto fnExactPutMessageSpec)

/-- 'laws.FnExactHashToField', WHERE WHAT IT READS IS OF BULK AT MOST 1048576: true; the input reads as it did. -/
def fnExactHashToFieldUptoRow : OpenClaim := { program := "ytjiggakpnkchhaadoor", sum := "cbe080117c0ef7e0a54976dfadaf232bef9eecadf734c6465393fc4285d0b547", func := "loop.example/s02095/laws.FnExactHashToField", spec := "fnExactHashToField", inPlace := ["internal/abi.NoEscape", "internal/bytealg.MakeNoZero"], unfollowed := true, recurses := true, named := ["loop.example/s02095/impl.roundWords", "math/bits.divideError", "math/bits.overflowError"], apart := false, laid := [("loop.example/s02095/impl.roundWords", laid_loop_example_s02095_impl_roundWords)], narrowed := true }
def FnExactHashToFieldUptoSaid : Prop := fnExactHashToFieldUptoRow.holds Tryd.pinned (OpenSpec.upto fnExactHashToFieldSpec)

/-- 'laws.FnExactAgree', WHERE WHAT IT READS IS OF BULK AT MOST 1048576: true; the input reads as it did. -/
def fnExactAgreeUptoRow : OpenClaim := { program := "ytjiggakpnkchhaadoor", sum := "cbe080117c0ef7e0a54976dfadaf232bef9eecadf734c6465393fc4285d0b547", func := "loop.example/s02095/laws.FnExactAgree", spec := "fnExactAgree", inPlace := ["internal/abi.NoEscape", "internal/bytealg.MakeNoZero"], unfollowed := true, recurses := true, named := ["loop.example/s02095/impl.zero", "math/bits.divideError", "math/bits.overflowError", "loop.example/s02095/impl.roundWords"], apart := false, laid := [("loop.example/s02095/impl.roundWords", laid_loop_example_s02095_impl_roundWords), ("loop.example/s02095/impl.zero", laid_loop_example_s02095_impl_zero)], narrowed := true }
def FnExactAgreeUptoSaid : Prop := fnExactAgreeUptoRow.holds Tryd.pinned (OpenSpec.upto fnExactAgreeSpec)

/-- 'laws.FnHash', WHERE WHAT IT READS IS OF BULK AT MOST 1048576: true; the input reads as it did. -/
def fnHashUptoRow : OpenClaim := { program := "ytjiggakpnkchhaadoor", sum := "cbe080117c0ef7e0a54976dfadaf232bef9eecadf734c6465393fc4285d0b547", func := "loop.example/s02095/laws.FnHash", spec := "fnHash", inPlace := ["internal/abi.NoEscape", "internal/bytealg.MakeNoZero"], unfollowed := true, recurses := true, named := ["loop.example/s02095/impl.roundWords", "math/bits.divideError", "math/bits.overflowError"], apart := false, laid := [("loop.example/s02095/impl.roundWords", laid_loop_example_s02095_impl_roundWords)], narrowed := true }
def FnHashUptoSaid : Prop := fnHashUptoRow.holds Tryd.pinned (OpenSpec.upto fnHashSpec)

end Rows
end Go.Proofs.YtjiggakpnkchhaaDoor
