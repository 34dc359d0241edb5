/-
  NARROWER THAN 'FOR EVERY INPUT', by the rows' own cells (each row's printed sentence says how): FnExactOnCurve: laid · FnExactNegative: laid · FnExactPutPoint: laid · FnExactSha256: laid · FnExactAdd: laid · FnExactGetPoint: laid · FnExactTimes: laid · FnExactHmac: laid · FnExactExtract: laid · FnExactExpandMessage: laid · FnExactExpand: laid · FnPoints: laid · FnGroup: laid · FnExactHashToScalar: laid · FnExactPutMessage: laid · FnExactHashToField: laid · FnExactAgree: laid.
  DERIVED. THE GIVEN ROWS OF THIS SEAT. 17 by the template 'for every input the law returns true; each argument reads behind the call as it read before'; 0 by the template 'total and deterministic' (their statements: YtkefcokmghbmhaaDoorTotals.lean).
  GIVEN WITH THE SEED: the statements are not yours to turn. If you find one false, say at which input.
  Laid BY PROGRAM, IN A SANDBOX (cutbox-rows.mjs): the forced cells as the released guide's own fill.sh prints them over the translation ec3db7f8f511f3a1… (all of the seat's roots in one cut). By AI agents, Wed Nov 11 2026. No macro, syntax, notation, axiom, sorry.
-/
import Derived.Test.YtkefcokmghbmhaaDoorChecked
import GoSem.Claim
import GoSem.ClaimJoined
import GoSem.ClaimMapViews
import Derived.JoinedTies
import Derived.KernelRfl
namespace Go.Proofs.YtkefcokmghbmhaaDoor
/- THE CELL 'sum', in the pinned program and in every row, IS THE sha256 OF THE DUMP (.gsa) THAT YtkefcokmghbmhaaDoorProg.lean LOADS. Nothing in Lean hashes anything: it is a label: what it is worth is what the hold of that sum in a sandbox is worth. -/
noncomputable def Tryd.pinned : Pinned := { name := "ytkefcokmghbmhaadoor", sum := "ec3db7f8f511f3a1b8c493437e0598d9817e95373a2c072d4a4c0b792cd39517", checked := Tryd.checked }
namespace Rows
def none {H : Type} : Left H := { results := [], args := [] }

/- WHAT THE LISTED PACKAGE-LEVEL VARIABLES READ AS WHEN THE CALL BEGINS. Each datum BY PROGRAM (the guide's laid-datum.mjs) off the statement by which the dump's own 'gosem.cut.vars' lays the variable. In a bare row this is a premise. The card (YtkefcokmghbmhaaDoorCards.lean) ties it to the program's text. -/
def laid_loop_example_s02095_impl_zero {H : Type} : DataW H := .agg [.lit (.int .u64 0), .lit (.int .u64 0), .lit (.bool true)]
def laid_loop_example_s02095_impl_roundWords {H : Type} : DataW H := .agg [.lit (.int .u32 1116352408), .lit (.int .u32 1899447441), .lit (.int .u32 3049323471), .lit (.int .u32 3921009573), .lit (.int .u32 961987163), .lit (.int .u32 1508970993), .lit (.int .u32 2453635748), .lit (.int .u32 2870763221), .lit (.int .u32 3624381080), .lit (.int .u32 310598401), .lit (.int .u32 607225278), .lit (.int .u32 1426881987), .lit (.int .u32 1925078388), .lit (.int .u32 2162078206), .lit (.int .u32 2614888103), .lit (.int .u32 3248222580), .lit (.int .u32 3835390401), .lit (.int .u32 4022224774), .lit (.int .u32 264347078), .lit (.int .u32 604807628), .lit (.int .u32 770255983), .lit (.int .u32 1249150122), .lit (.int .u32 1555081692), .lit (.int .u32 1996064986), .lit (.int .u32 2554220882), .lit (.int .u32 2821834349), .lit (.int .u32 2952996808), .lit (.int .u32 3210313671), .lit (.int .u32 3336571891), .lit (.int .u32 3584528711), .lit (.int .u32 113926993), .lit (.int .u32 338241895), .lit (.int .u32 666307205), .lit (.int .u32 773529912), .lit (.int .u32 1294757372), .lit (.int .u32 1396182291), .lit (.int .u32 1695183700), .lit (.int .u32 1986661051), .lit (.int .u32 2177026350), .lit (.int .u32 2456956037), .lit (.int .u32 2730485921), .lit (.int .u32 2820302411), .lit (.int .u32 3259730800), .lit (.int .u32 3345764771), .lit (.int .u32 3516065817), .lit (.int .u32 3600352804), .lit (.int .u32 4094571909), .lit (.int .u32 275423344), .lit (.int .u32 430227734), .lit (.int .u32 506948616), .lit (.int .u32 659060556), .lit (.int .u32 883997877), .lit (.int .u32 958139571), .lit (.int .u32 1322822218), .lit (.int .u32 1537002063), .lit (.int .u32 1747873779), .lit (.int .u32 1955562222), .lit (.int .u32 2024104815), .lit (.int .u32 2227730452), .lit (.int .u32 2361852424), .lit (.int .u32 2428436474), .lit (.int .u32 2756734187), .lit (.int .u32 3204031479), .lit (.int .u32 3329325298)]

/-- 'laws.FnExactOnCurve': WHATEVER THE INPUT: true; the input reads as it did. -/
def fnExactOnCurveSpec : ChangeSpec := { name := "fnExactOnCurve", vars := ["loop.example/s02095/impl.zero"], fn := fun _ => fun
  | [d, g1] => { results := [.lit (.bool true)], args := [d], vars := [g1] }
  | _ => none }
def fnExactOnCurveRow : OpenClaim := { program := "ytkefcokmghbmhaadoor", sum := "ec3db7f8f511f3a1b8c493437e0598d9817e95373a2c072d4a4c0b792cd39517", func := "loop.example/s02095/laws.FnExactOnCurve", spec := "fnExactOnCurve", unfollowed := true, recurses := true, named := ["loop.example/s02095/impl.zero", "math/bits.divideError", "math/bits.overflowError"], apart := false, laid := [("loop.example/s02095/impl.zero", laid_loop_example_s02095_impl_zero)] }
def FnExactOnCurveSaid : Prop := fnExactOnCurveRow.holds Tryd.pinned (OpenSpec.ofChange fnExactOnCurveSpec)

/-- ITS FALSE NEIGHBOUR: 'it returns false'. Refute it at one input. -/
def fnExactOnCurveWrong : ChangeSpec := { name := "fnExactOnCurve", vars := ["loop.example/s02095/impl.zero"], fn := fun _ => fun
  | [d, g1] => { results := [.lit (.bool false)], args := [d], vars := [g1] }
  | _ => none }
def FnExactOnCurveWrongFalsely : Prop := fnExactOnCurveRow.holds Tryd.pinned (OpenSpec.ofChange fnExactOnCurveWrong)

/-- 'laws.FnExactNegative': WHATEVER THE INPUT: true; the input reads as it did. -/
def fnExactNegativeSpec : ChangeSpec := { name := "fnExactNegative", vars := ["loop.example/s02095/impl.zero"], fn := fun _ => fun
  | [d, g1] => { results := [.lit (.bool true)], args := [d], vars := [g1] }
  | _ => none }
def fnExactNegativeRow : OpenClaim := { program := "ytkefcokmghbmhaadoor", sum := "ec3db7f8f511f3a1b8c493437e0598d9817e95373a2c072d4a4c0b792cd39517", func := "loop.example/s02095/laws.FnExactNegative", spec := "fnExactNegative", unfollowed := true, recurses := true, named := ["loop.example/s02095/impl.zero", "math/bits.divideError", "math/bits.overflowError"], apart := false, laid := [("loop.example/s02095/impl.zero", laid_loop_example_s02095_impl_zero)] }
def FnExactNegativeSaid : Prop := fnExactNegativeRow.holds Tryd.pinned (OpenSpec.ofChange fnExactNegativeSpec)

/-- ITS FALSE NEIGHBOUR: 'it returns false'. Refute it at one input. -/
def fnExactNegativeWrong : ChangeSpec := { name := "fnExactNegative", vars := ["loop.example/s02095/impl.zero"], fn := fun _ => fun
  | [d, g1] => { results := [.lit (.bool false)], args := [d], vars := [g1] }
  | _ => none }
def FnExactNegativeWrongFalsely : Prop := fnExactNegativeRow.holds Tryd.pinned (OpenSpec.ofChange fnExactNegativeWrong)

/-- 'laws.FnExactPutPoint': WHATEVER THE INPUT: true; the input reads as it did. -/
def fnExactPutPointSpec : ChangeSpec := { name := "fnExactPutPoint", vars := ["loop.example/s02095/impl.zero"], fn := fun _ => fun
  | [d, g1] => { results := [.lit (.bool true)], args := [d], vars := [g1] }
  | _ => none }
def fnExactPutPointRow : OpenClaim := { program := "ytkefcokmghbmhaadoor", sum := "ec3db7f8f511f3a1b8c493437e0598d9817e95373a2c072d4a4c0b792cd39517", func := "loop.example/s02095/laws.FnExactPutPoint", spec := "fnExactPutPoint", unfollowed := true, recurses := true, named := ["loop.example/s02095/impl.zero", "math/bits.divideError", "math/bits.overflowError"], apart := false, laid := [("loop.example/s02095/impl.zero", laid_loop_example_s02095_impl_zero)] }
def FnExactPutPointSaid : Prop := fnExactPutPointRow.holds Tryd.pinned (OpenSpec.ofChange fnExactPutPointSpec)

/-- ITS FALSE NEIGHBOUR: 'it returns false'. Refute it at one input. -/
def fnExactPutPointWrong : ChangeSpec := { name := "fnExactPutPoint", vars := ["loop.example/s02095/impl.zero"], fn := fun _ => fun
  | [d, g1] => { results := [.lit (.bool false)], args := [d], vars := [g1] }
  | _ => none }
def FnExactPutPointWrongFalsely : Prop := fnExactPutPointRow.holds Tryd.pinned (OpenSpec.ofChange fnExactPutPointWrong)

/-- 'laws.FnExactSha256': WHATEVER THE INPUT: true; the input reads as it did. -/
def fnExactSha256Spec : ChangeSpec := { name := "fnExactSha256", vars := ["loop.example/s02095/impl.roundWords"], fn := fun _ => fun
  | [d, g1] => { results := [.lit (.bool true)], args := [d], vars := [g1] }
  | _ => none }
def fnExactSha256Row : OpenClaim := { program := "ytkefcokmghbmhaadoor", sum := "ec3db7f8f511f3a1b8c493437e0598d9817e95373a2c072d4a4c0b792cd39517", func := "loop.example/s02095/laws.FnExactSha256", spec := "fnExactSha256", inPlace := ["internal/abi.NoEscape", "internal/bytealg.MakeNoZero"], unfollowed := true, recurses := true, named := ["loop.example/s02095/impl.roundWords"], apart := false, laid := [("loop.example/s02095/impl.roundWords", laid_loop_example_s02095_impl_roundWords)] }
def FnExactSha256Said : Prop := fnExactSha256Row.holds Tryd.pinned (OpenSpec.ofChange fnExactSha256Spec)

/-- ITS FALSE NEIGHBOUR: 'it returns false'. Refute it at one input. -/
def fnExactSha256Wrong : ChangeSpec := { name := "fnExactSha256", vars := ["loop.example/s02095/impl.roundWords"], fn := fun _ => fun
  | [d, g1] => { results := [.lit (.bool false)], args := [d], vars := [g1] }
  | _ => none }
def FnExactSha256WrongFalsely : Prop := fnExactSha256Row.holds Tryd.pinned (OpenSpec.ofChange fnExactSha256Wrong)

/-- 'laws.FnExactAdd': WHATEVER THE INPUT: true; the input reads as it did. -/
def fnExactAddSpec : ChangeSpec := { name := "fnExactAdd", vars := ["loop.example/s02095/impl.zero"], fn := fun _ => fun
  | [d1, d2, g1] => { results := [.lit (.bool true)], args := [d1, d2], vars := [g1] }
  | _ => none }
def fnExactAddRow : OpenClaim := { program := "ytkefcokmghbmhaadoor", sum := "ec3db7f8f511f3a1b8c493437e0598d9817e95373a2c072d4a4c0b792cd39517", func := "loop.example/s02095/laws.FnExactAdd", spec := "fnExactAdd", unfollowed := true, recurses := true, named := ["loop.example/s02095/impl.zero", "math/bits.divideError", "math/bits.overflowError"], apart := false, laid := [("loop.example/s02095/impl.zero", laid_loop_example_s02095_impl_zero)] }
def FnExactAddSaid : Prop := fnExactAddRow.holds Tryd.pinned (OpenSpec.ofChange fnExactAddSpec)

/-- ITS FALSE NEIGHBOUR: 'it returns false'. Refute it at one input. -/
def fnExactAddWrong : ChangeSpec := { name := "fnExactAdd", vars := ["loop.example/s02095/impl.zero"], fn := fun _ => fun
  | [d1, d2, g1] => { results := [.lit (.bool false)], args := [d1, d2], vars := [g1] }
  | _ => none }
def FnExactAddWrongFalsely : Prop := fnExactAddRow.holds Tryd.pinned (OpenSpec.ofChange fnExactAddWrong)

/-- 'laws.FnExactGetPoint': WHATEVER THE INPUT: true; the input reads as it did. -/
def fnExactGetPointSpec : ChangeSpec := { name := "fnExactGetPoint", vars := ["loop.example/s02095/impl.zero"], fn := fun _ => fun
  | [d, g1] => { results := [.lit (.bool true)], args := [d], vars := [g1] }
  | _ => none }
def fnExactGetPointRow : OpenClaim := { program := "ytkefcokmghbmhaadoor", sum := "ec3db7f8f511f3a1b8c493437e0598d9817e95373a2c072d4a4c0b792cd39517", func := "loop.example/s02095/laws.FnExactGetPoint", spec := "fnExactGetPoint", unfollowed := true, recurses := true, named := ["loop.example/s02095/impl.zero", "math/bits.divideError", "math/bits.overflowError"], apart := false, laid := [("loop.example/s02095/impl.zero", laid_loop_example_s02095_impl_zero)] }
def FnExactGetPointSaid : Prop := fnExactGetPointRow.holds Tryd.pinned (OpenSpec.ofChange fnExactGetPointSpec)

/-- ITS FALSE NEIGHBOUR: 'it returns false'. Refute it at one input. -/
def fnExactGetPointWrong : ChangeSpec := { name := "fnExactGetPoint", vars := ["loop.example/s02095/impl.zero"], fn := fun _ => fun
  | [d, g1] => { results := [.lit (.bool false)], args := [d], vars := [g1] }
  | _ => none }
def FnExactGetPointWrongFalsely : Prop := fnExactGetPointRow.holds Tryd.pinned (OpenSpec.ofChange fnExactGetPointWrong)

/-- 'laws.FnExactTimes': WHATEVER THE INPUT: true; the input reads as it did. -/
def fnExactTimesSpec : ChangeSpec := { name := "fnExactTimes", vars := ["loop.example/s02095/impl.zero"], fn := fun _ => fun
  | [d1, d2, g1] => { results := [.lit (.bool true)], args := [d1, d2], vars := [g1] }
  | _ => none }
def fnExactTimesRow : OpenClaim := { program := "ytkefcokmghbmhaadoor", sum := "ec3db7f8f511f3a1b8c493437e0598d9817e95373a2c072d4a4c0b792cd39517", func := "loop.example/s02095/laws.FnExactTimes", spec := "fnExactTimes", unfollowed := true, recurses := true, named := ["loop.example/s02095/impl.zero", "math/bits.divideError", "math/bits.overflowError"], apart := false, laid := [("loop.example/s02095/impl.zero", laid_loop_example_s02095_impl_zero)] }
def FnExactTimesSaid : Prop := fnExactTimesRow.holds Tryd.pinned (OpenSpec.ofChange fnExactTimesSpec)

/-- ITS FALSE NEIGHBOUR: 'it returns false'. Refute it at one input. -/
def fnExactTimesWrong : ChangeSpec := { name := "fnExactTimes", vars := ["loop.example/s02095/impl.zero"], fn := fun _ => fun
  | [d1, d2, g1] => { results := [.lit (.bool false)], args := [d1, d2], vars := [g1] }
  | _ => none }
def FnExactTimesWrongFalsely : Prop := fnExactTimesRow.holds Tryd.pinned (OpenSpec.ofChange fnExactTimesWrong)

/-- 'laws.FnExactHmac': WHATEVER THE INPUT: true; the input reads as it did. -/
def fnExactHmacSpec : ChangeSpec := { name := "fnExactHmac", vars := ["loop.example/s02095/impl.roundWords"], fn := fun _ => fun
  | [d1, d2, g1] => { results := [.lit (.bool true)], args := [d1, d2], vars := [g1] }
  | _ => none }
def fnExactHmacRow : OpenClaim := { program := "ytkefcokmghbmhaadoor", sum := "ec3db7f8f511f3a1b8c493437e0598d9817e95373a2c072d4a4c0b792cd39517", func := "loop.example/s02095/laws.FnExactHmac", spec := "fnExactHmac", inPlace := ["internal/abi.NoEscape", "internal/bytealg.MakeNoZero"], unfollowed := true, recurses := true, named := ["loop.example/s02095/impl.roundWords"], apart := false, laid := [("loop.example/s02095/impl.roundWords", laid_loop_example_s02095_impl_roundWords)] }
def FnExactHmacSaid : Prop := fnExactHmacRow.holds Tryd.pinned (OpenSpec.ofChange fnExactHmacSpec)

/-- ITS FALSE NEIGHBOUR: 'it returns false'. Refute it at one input. -/
def fnExactHmacWrong : ChangeSpec := { name := "fnExactHmac", vars := ["loop.example/s02095/impl.roundWords"], fn := fun _ => fun
  | [d1, d2, g1] => { results := [.lit (.bool false)], args := [d1, d2], vars := [g1] }
  | _ => none }
def FnExactHmacWrongFalsely : Prop := fnExactHmacRow.holds Tryd.pinned (OpenSpec.ofChange fnExactHmacWrong)

/-- 'laws.FnExactExtract': WHATEVER THE INPUT: true; the input reads as it did. -/
def fnExactExtractSpec : ChangeSpec := { name := "fnExactExtract", vars := ["loop.example/s02095/impl.roundWords"], fn := fun _ => fun
  | [d1, d2, g1] => { results := [.lit (.bool true)], args := [d1, d2], vars := [g1] }
  | _ => none }
def fnExactExtractRow : OpenClaim := { program := "ytkefcokmghbmhaadoor", sum := "ec3db7f8f511f3a1b8c493437e0598d9817e95373a2c072d4a4c0b792cd39517", func := "loop.example/s02095/laws.FnExactExtract", spec := "fnExactExtract", inPlace := ["internal/abi.NoEscape", "internal/bytealg.MakeNoZero"], unfollowed := true, recurses := true, named := ["loop.example/s02095/impl.roundWords"], apart := false, laid := [("loop.example/s02095/impl.roundWords", laid_loop_example_s02095_impl_roundWords)] }
def FnExactExtractSaid : Prop := fnExactExtractRow.holds Tryd.pinned (OpenSpec.ofChange fnExactExtractSpec)

/-- ITS FALSE NEIGHBOUR: 'it returns false'. Refute it at one input. -/
def fnExactExtractWrong : ChangeSpec := { name := "fnExactExtract", vars := ["loop.example/s02095/impl.roundWords"], fn := fun _ => fun
  | [d1, d2, g1] => { results := [.lit (.bool false)], args := [d1, d2], vars := [g1] }
  | _ => none }
def FnExactExtractWrongFalsely : Prop := fnExactExtractRow.holds Tryd.pinned (OpenSpec.ofChange fnExactExtractWrong)

/-- 'laws.FnExactExpandMessage': WHATEVER THE INPUT: true; the input reads as it did. -/
def fnExactExpandMessageSpec : ChangeSpec := { name := "fnExactExpandMessage", vars := ["loop.example/s02095/impl.roundWords"], fn := fun _ => fun
  | [d1, d2, d3, g1] => { results := [.lit (.bool true)], args := [d1, d2, d3], vars := [g1] }
  | _ => none }
def fnExactExpandMessageRow : OpenClaim := { program := "ytkefcokmghbmhaadoor", sum := "ec3db7f8f511f3a1b8c493437e0598d9817e95373a2c072d4a4c0b792cd39517", func := "loop.example/s02095/laws.FnExactExpandMessage", spec := "fnExactExpandMessage", inPlace := ["internal/abi.NoEscape", "internal/bytealg.MakeNoZero"], unfollowed := true, recurses := true, named := ["loop.example/s02095/impl.roundWords"], apart := false, laid := [("loop.example/s02095/impl.roundWords", laid_loop_example_s02095_impl_roundWords)] }
def FnExactExpandMessageSaid : Prop := fnExactExpandMessageRow.holds Tryd.pinned (OpenSpec.ofChange fnExactExpandMessageSpec)

/-- ITS FALSE NEIGHBOUR: 'it returns false'. Refute it at one input. -/
def fnExactExpandMessageWrong : ChangeSpec := { name := "fnExactExpandMessage", vars := ["loop.example/s02095/impl.roundWords"], fn := fun _ => fun
  | [d1, d2, d3, g1] => { results := [.lit (.bool false)], args := [d1, d2, d3], vars := [g1] }
  | _ => none }
def FnExactExpandMessageWrongFalsely : Prop := fnExactExpandMessageRow.holds Tryd.pinned (OpenSpec.ofChange fnExactExpandMessageWrong)

/-- 'laws.FnExactExpand': WHATEVER THE INPUT: true; the input reads as it did. -/
def fnExactExpandSpec : ChangeSpec := { name := "fnExactExpand", vars := ["loop.example/s02095/impl.roundWords"], fn := fun _ => fun
  | [d1, d2, d3, g1] => { results := [.lit (.bool true)], args := [d1, d2, d3], vars := [g1] }
  | _ => none }
def fnExactExpandRow : OpenClaim := { program := "ytkefcokmghbmhaadoor", sum := "ec3db7f8f511f3a1b8c493437e0598d9817e95373a2c072d4a4c0b792cd39517", func := "loop.example/s02095/laws.FnExactExpand", spec := "fnExactExpand", inPlace := ["internal/abi.NoEscape", "internal/bytealg.MakeNoZero"], unfollowed := true, recurses := true, named := ["loop.example/s02095/impl.roundWords"], apart := false, laid := [("loop.example/s02095/impl.roundWords", laid_loop_example_s02095_impl_roundWords)] }
def FnExactExpandSaid : Prop := fnExactExpandRow.holds Tryd.pinned (OpenSpec.ofChange fnExactExpandSpec)

/-- ITS FALSE NEIGHBOUR: 'it returns false'. Refute it at one input. -/
def fnExactExpandWrong : ChangeSpec := { name := "fnExactExpand", vars := ["loop.example/s02095/impl.roundWords"], fn := fun _ => fun
  | [d1, d2, d3, g1] => { results := [.lit (.bool false)], args := [d1, d2, d3], vars := [g1] }
  | _ => none }
def FnExactExpandWrongFalsely : Prop := fnExactExpandRow.holds Tryd.pinned (OpenSpec.ofChange fnExactExpandWrong)

/-- 'laws.FnPoints': WHATEVER THE INPUT: true; the input reads as it did. -/
def fnPointsSpec : ChangeSpec := { name := "fnPoints", vars := ["loop.example/s02095/impl.zero"], fn := fun _ => fun
  | [d, g1] => { results := [.lit (.bool true)], args := [d], vars := [g1] }
  | _ => none }
def fnPointsRow : OpenClaim := { program := "ytkefcokmghbmhaadoor", sum := "ec3db7f8f511f3a1b8c493437e0598d9817e95373a2c072d4a4c0b792cd39517", func := "loop.example/s02095/laws.FnPoints", spec := "fnPoints", unfollowed := true, recurses := true, named := ["loop.example/s02095/impl.zero", "math/bits.divideError", "math/bits.overflowError"], apart := false, laid := [("loop.example/s02095/impl.zero", laid_loop_example_s02095_impl_zero)] }
def FnPointsSaid : Prop := fnPointsRow.holds Tryd.pinned (OpenSpec.ofChange fnPointsSpec)

/-- ITS FALSE NEIGHBOUR: 'it returns false'. Refute it at one input. -/
def fnPointsWrong : ChangeSpec := { name := "fnPoints", vars := ["loop.example/s02095/impl.zero"], fn := fun _ => fun
  | [d, g1] => { results := [.lit (.bool false)], args := [d], vars := [g1] }
  | _ => none }
def FnPointsWrongFalsely : Prop := fnPointsRow.holds Tryd.pinned (OpenSpec.ofChange fnPointsWrong)

/-- 'laws.FnGroup': WHATEVER THE INPUT: true; the input reads as it did. -/
def fnGroupSpec : ChangeSpec := { name := "fnGroup", vars := ["loop.example/s02095/impl.zero"], fn := fun _ => fun
  | [d1, d2, g1] => { results := [.lit (.bool true)], args := [d1, d2], vars := [g1] }
  | _ => none }
def fnGroupRow : OpenClaim := { program := "ytkefcokmghbmhaadoor", sum := "ec3db7f8f511f3a1b8c493437e0598d9817e95373a2c072d4a4c0b792cd39517", func := "loop.example/s02095/laws.FnGroup", spec := "fnGroup", unfollowed := true, recurses := true, named := ["loop.example/s02095/impl.zero", "math/bits.divideError", "math/bits.overflowError"], apart := false, laid := [("loop.example/s02095/impl.zero", laid_loop_example_s02095_impl_zero)] }
def FnGroupSaid : Prop := fnGroupRow.holds Tryd.pinned (OpenSpec.ofChange fnGroupSpec)

/-- ITS FALSE NEIGHBOUR: 'it returns false'. Refute it at one input. -/
def fnGroupWrong : ChangeSpec := { name := "fnGroup", vars := ["loop.example/s02095/impl.zero"], fn := fun _ => fun
  | [d1, d2, g1] => { results := [.lit (.bool false)], args := [d1, d2], vars := [g1] }
  | _ => none }
def FnGroupWrongFalsely : Prop := fnGroupRow.holds Tryd.pinned (OpenSpec.ofChange fnGroupWrong)

/-- 'laws.FnExactHashToScalar': WHATEVER THE INPUT: true; the input reads as it did. -/
def fnExactHashToScalarSpec : ChangeSpec := { name := "fnExactHashToScalar", vars := ["loop.example/s02095/impl.roundWords"], fn := fun _ => fun
  | [d1, d2, g1] => { results := [.lit (.bool true)], args := [d1, d2], vars := [g1] }
  | _ => none }
def fnExactHashToScalarRow : OpenClaim := { program := "ytkefcokmghbmhaadoor", sum := "ec3db7f8f511f3a1b8c493437e0598d9817e95373a2c072d4a4c0b792cd39517", func := "loop.example/s02095/laws.FnExactHashToScalar", spec := "fnExactHashToScalar", inPlace := ["internal/abi.NoEscape", "internal/bytealg.MakeNoZero"], unfollowed := true, recurses := true, named := ["loop.example/s02095/impl.roundWords", "math/bits.divideError", "math/bits.overflowError"], apart := false, laid := [("loop.example/s02095/impl.roundWords", laid_loop_example_s02095_impl_roundWords)] }
def FnExactHashToScalarSaid : Prop := fnExactHashToScalarRow.holds Tryd.pinned (OpenSpec.ofChange fnExactHashToScalarSpec)

/-- ITS FALSE NEIGHBOUR: 'it returns false'. Refute it at one input. -/
def fnExactHashToScalarWrong : ChangeSpec := { name := "fnExactHashToScalar", vars := ["loop.example/s02095/impl.roundWords"], fn := fun _ => fun
  | [d1, d2, g1] => { results := [.lit (.bool false)], args := [d1, d2], vars := [g1] }
  | _ => none }
def FnExactHashToScalarWrongFalsely : Prop := fnExactHashToScalarRow.holds Tryd.pinned (OpenSpec.ofChange fnExactHashToScalarWrong)

/-- 'laws.FnExactPutMessage': WHATEVER THE INPUT: true; the input reads as it did. -/
def fnExactPutMessageSpec : ChangeSpec := { name := "fnExactPutMessage", vars := ["loop.example/s02095/impl.zero"], fn := fun _ => fun
  | [d, g1] => { results := [.lit (.bool true)], args := [d], vars := [g1] }
  | _ => none }
def fnExactPutMessageRow : OpenClaim := { program := "ytkefcokmghbmhaadoor", sum := "ec3db7f8f511f3a1b8c493437e0598d9817e95373a2c072d4a4c0b792cd39517", func := "loop.example/s02095/laws.FnExactPutMessage", spec := "fnExactPutMessage", unfollowed := true, recurses := true, named := ["loop.example/s02095/impl.zero", "math/bits.divideError", "math/bits.overflowError"], apart := false, laid := [("loop.example/s02095/impl.zero", laid_loop_example_s02095_impl_zero)] }
def FnExactPutMessageSaid : Prop := fnExactPutMessageRow.holds Tryd.pinned (OpenSpec.ofChange fnExactPutMessageSpec)

/-- ITS FALSE NEIGHBOUR: 'it returns false'. Refute it at one input. -/
def fnExactPutMessageWrong : ChangeSpec := { name := "fnExactPutMessage", vars := ["loop.example/s02095/impl.zero"], fn := fun _ => fun
  | [d, g1] => { results := [.lit (.bool false)], args := [d], vars := [g1] }
  | _ => none }
def FnExactPutMessageWrongFalsely : Prop := fnExactPutMessageRow.holds Tryd.pinned (OpenSpec.ofChange fnExactPutMessageWrong)

/-- 'laws.FnExactHashToField': WHATEVER THE INPUT: true; the input reads as it did. -/
def fnExactHashToFieldSpec : ChangeSpec := { name := "fnExactHashToField", vars := ["loop.example/s02095/impl.roundWords"], fn := fun _ => fun
  | [d1, d2, d3, d4, g1] => { results := [.lit (.bool true)], args := [d1, d2, d3, d4], vars := [g1] }
  | _ => none }
def fnExactHashToFieldRow : OpenClaim := { program := "ytkefcokmghbmhaadoor", sum := "ec3db7f8f511f3a1b8c493437e0598d9817e95373a2c072d4a4c0b792cd39517", func := "loop.example/s02095/laws.FnExactHashToField", spec := "fnExactHashToField", inPlace := ["internal/abi.NoEscape", "internal/bytealg.MakeNoZero"], unfollowed := true, recurses := true, named := ["loop.example/s02095/impl.roundWords", "math/bits.divideError", "math/bits.overflowError"], apart := false, laid := [("loop.example/s02095/impl.roundWords", laid_loop_example_s02095_impl_roundWords)] }
def FnExactHashToFieldSaid : Prop := fnExactHashToFieldRow.holds Tryd.pinned (OpenSpec.ofChange fnExactHashToFieldSpec)

/-- ITS FALSE NEIGHBOUR: 'it returns false'. Refute it at one input. -/
def fnExactHashToFieldWrong : ChangeSpec := { name := "fnExactHashToField", vars := ["loop.example/s02095/impl.roundWords"], fn := fun _ => fun
  | [d1, d2, d3, d4, g1] => { results := [.lit (.bool false)], args := [d1, d2, d3, d4], vars := [g1] }
  | _ => none }
def FnExactHashToFieldWrongFalsely : Prop := fnExactHashToFieldRow.holds Tryd.pinned (OpenSpec.ofChange fnExactHashToFieldWrong)

/-- 'laws.FnExactAgree': WHATEVER THE INPUT: true; the input reads as it did. -/
def fnExactAgreeSpec : ChangeSpec := { name := "fnExactAgree", vars := ["loop.example/s02095/impl.zero", "loop.example/s02095/impl.roundWords"], fn := fun _ => fun
  | [d1, d2, d3, d4, g1, g2] => { results := [.lit (.bool true)], args := [d1, d2, d3, d4], vars := [g1, g2] }
  | _ => none }
def fnExactAgreeRow : OpenClaim := { program := "ytkefcokmghbmhaadoor", sum := "ec3db7f8f511f3a1b8c493437e0598d9817e95373a2c072d4a4c0b792cd39517", func := "loop.example/s02095/laws.FnExactAgree", spec := "fnExactAgree", inPlace := ["internal/abi.NoEscape", "internal/bytealg.MakeNoZero"], unfollowed := true, recurses := true, named := ["loop.example/s02095/impl.zero", "math/bits.divideError", "math/bits.overflowError", "loop.example/s02095/impl.roundWords"], apart := false, laid := [("loop.example/s02095/impl.roundWords", laid_loop_example_s02095_impl_roundWords), ("loop.example/s02095/impl.zero", laid_loop_example_s02095_impl_zero)] }
def FnExactAgreeSaid : Prop := fnExactAgreeRow.holds Tryd.pinned (OpenSpec.ofChange fnExactAgreeSpec)

/-- ITS FALSE NEIGHBOUR: 'it returns false'. Refute it at one input. -/
def fnExactAgreeWrong : ChangeSpec := { name := "fnExactAgree", vars := ["loop.example/s02095/impl.zero", "loop.example/s02095/impl.roundWords"], fn := fun _ => fun
  | [d1, d2, d3, d4, g1, g2] => { results := [.lit (.bool false)], args := [d1, d2, d3, d4], vars := [g1, g2] }
  | _ => none }
def FnExactAgreeWrongFalsely : Prop := fnExactAgreeRow.holds Tryd.pinned (OpenSpec.ofChange fnExactAgreeWrong)

/- THE SECOND FORM. 'bulk': how many values and letters a reading holds, each counted each time it is reached (what is shared counts as often as it is met; a slice's spare places count too). A statement '..UptoSaid' is the law's where the arguments, and the package variables that the reading takes, are together of bulk at most 1048576: NARROWER than '..Said'. Prove '..Said' where nothing that the law and all that it calls make is longer than what came in: it says more and counts as full. Else prove '..UptoSaid'. A law counts once. -/
mutual
def uptoBulk {H : Type} : DataW H → Nat
  | .lit (.string bytes) => bytes.length + 1
  | .lit _ => 1
  | .nil => 1
  | .ptr d => uptoBulk d + 1
  | .slice elems spare => uptoBulkAll elems + uptoBulkAll spare + 1
  | .agg parts => uptoBulkAll parts + 1
  | .iface _ d => uptoBulk d + 1
  | .map entries => uptoBulkEntries entries + 1
  | .held _ => 1
def uptoBulkAll {H : Type} : List (DataW H) → Nat
  | [] => 0
  | d :: r => uptoBulk d + uptoBulkAll r
def uptoBulkEntries {H : Type} : List (Lit × DataW H) → Nat
  | [] => 0
  | x :: r => uptoBulkEntry x + uptoBulkEntries r
def uptoBulkEntry {H : Type} : Lit × DataW H → Nat
  | (.string bytes, d) => bytes.length + uptoBulk d + 1
  | (_, d) => uptoBulk d + 1
 end
def uptoSmall : (H : Type) → List (DataW H) → Bool := fun _ ds => decide (uptoBulkAll ds ≤ 1048576)
def OpenSpec.upto (s : _root_.Go.ChangeSpec) : _root_.Go.OpenSpec := { _root_.Go.OpenSpec.ofChange s with cond := some uptoSmall }

/-- 'laws.FnExactOnCurve', WHERE WHAT IT READS IS OF BULK AT MOST 1048576: true; the input reads as it did. -/
def fnExactOnCurveUptoRow : OpenClaim := { program := "ytkefcokmghbmhaadoor", sum := "ec3db7f8f511f3a1b8c493437e0598d9817e95373a2c072d4a4c0b792cd39517", func := "loop.example/s02095/laws.FnExactOnCurve", spec := "fnExactOnCurve", unfollowed := true, recurses := true, named := ["loop.example/s02095/impl.zero", "math/bits.divideError", "math/bits.overflowError"], apart := false, laid := [("loop.example/s02095/impl.zero", laid_loop_example_s02095_impl_zero)], narrowed := true }
def FnExactOnCurveUptoSaid : Prop := fnExactOnCurveUptoRow.holds Tryd.pinned (OpenSpec.upto fnExactOnCurveSpec)

/-- 'laws.FnExactNegative', WHERE WHAT IT READS IS OF BULK AT MOST 1048576: true; the input reads as it did. -/
def fnExactNegativeUptoRow : OpenClaim := { program := "ytkefcokmghbmhaadoor", sum := "ec3db7f8f511f3a1b8c493437e0598d9817e95373a2c072d4a4c0b792cd39517", func := "loop.example/s02095/laws.FnExactNegative", spec := "fnExactNegative", unfollowed := true, recurses := true, named := ["loop.example/s02095/impl.zero", "math/bits.divideError", "math/bits.overflowError"], apart := false, laid := [("loop.example/s02095/impl.zero", laid_loop_example_s02095_impl_zero)], narrowed := true }
def FnExactNegativeUptoSaid : Prop := fnExactNegativeUptoRow.holds Tryd.pinned (OpenSpec.upto fnExactNegativeSpec)

/-- 'laws.FnExactPutPoint', WHERE WHAT IT READS IS OF BULK AT MOST 1048576: true; the input reads as it did. -/
def fnExactPutPointUptoRow : OpenClaim := { program := "ytkefcokmghbmhaadoor", sum := "ec3db7f8f511f3a1b8c493437e0598d9817e95373a2c072d4a4c0b792cd39517", func := "loop.example/s02095/laws.FnExactPutPoint", spec := "fnExactPutPoint", unfollowed := true, recurses := true, named := ["loop.example/s02095/impl.zero", "math/bits.divideError", "math/bits.overflowError"], apart := false, laid := [("loop.example/s02095/impl.zero", laid_loop_example_s02095_impl_zero)], narrowed := true }
def FnExactPutPointUptoSaid : Prop := fnExactPutPointUptoRow.holds Tryd.pinned (OpenSpec.upto fnExactPutPointSpec)

/-- 'laws.FnExactSha256', WHERE WHAT IT READS IS OF BULK AT MOST 1048576: true; the input reads as it did. -/
def fnExactSha256UptoRow : OpenClaim := { program := "ytkefcokmghbmhaadoor", sum := "ec3db7f8f511f3a1b8c493437e0598d9817e95373a2c072d4a4c0b792cd39517", func := "loop.example/s02095/laws.FnExactSha256", spec := "fnExactSha256", inPlace := ["internal/abi.NoEscape", "internal/bytealg.MakeNoZero"], unfollowed := true, recurses := true, named := ["loop.example/s02095/impl.roundWords"], apart := false, laid := [("loop.example/s02095/impl.roundWords", laid_loop_example_s02095_impl_roundWords)], narrowed := true }
def FnExactSha256UptoSaid : Prop := fnExactSha256UptoRow.holds Tryd.pinned (OpenSpec.upto fnExactSha256Spec)

/-- 'laws.FnExactAdd', WHERE WHAT IT READS IS OF BULK AT MOST 1048576: true; the input reads as it did. -/
def fnExactAddUptoRow : OpenClaim := { program := "ytkefcokmghbmhaadoor", sum := "ec3db7f8f511f3a1b8c493437e0598d9817e95373a2c072d4a4c0b792cd39517", func := "loop.example/s02095/laws.FnExactAdd", spec := "fnExactAdd", unfollowed := true, recurses := true, named := ["loop.example/s02095/impl.zero", "math/bits.divideError", "math/bits.overflowError"], apart := false, laid := [("loop.example/s02095/impl.zero", laid_loop_example_s02095_impl_zero)], narrowed := true }
def FnExactAddUptoSaid : Prop := fnExactAddUptoRow.holds Tryd.pinned (OpenSpec.upto fnExactAddSpec)

/-- 'laws.FnExactGetPoint', WHERE WHAT IT READS IS OF BULK AT MOST 1048576: true; the input reads as it did. -/
def fnExactGetPointUptoRow : OpenClaim := { program := "ytkefcokmghbmhaadoor", sum := "ec3db7f8f511f3a1b8c493437e0598d9817e95373a2c072d4a4c0b792cd39517", func := "loop.example/s02095/laws.FnExactGetPoint", spec := "fnExactGetPoint", unfollowed := true, recurses := true, named := ["loop.example/s02095/impl.zero", "math/bits.divideError", "math/bits.overflowError"], apart := false, laid := [("loop.example/s02095/impl.zero", laid_loop_example_s02095_impl_zero)], narrowed := true }
def FnExactGetPointUptoSaid : Prop := fnExactGetPointUptoRow.holds Tryd.pinned (OpenSpec.upto fnExactGetPointSpec)

/-- 'laws.FnExactTimes', WHERE WHAT IT READS IS OF BULK AT MOST 1048576: true; the input reads as it did. -/
def fnExactTimesUptoRow : OpenClaim := { program := "ytkefcokmghbmhaadoor", sum := "ec3db7f8f511f3a1b8c493437e0598d9817e95373a2c072d4a4c0b792cd39517", func := "loop.example/s02095/laws.FnExactTimes", spec := "fnExactTimes", unfollowed := true, recurses := true, named := ["loop.example/s02095/impl.zero", "math/bits.divideError", "math/bits.overflowError"], apart := false, laid := [("loop.example/s02095/impl.zero", laid_loop_example_s02095_impl_zero)], narrowed := true }
def FnExactTimesUptoSaid : Prop := fnExactTimesUptoRow.holds Tryd.pinned (OpenSpec.upto fnExactTimesSpec)

/-- 'laws.FnExactHmac', WHERE WHAT IT READS IS OF BULK AT MOST 1048576: true; the input reads as it did. -/
def fnExactHmacUptoRow : OpenClaim := { program := "ytkefcokmghbmhaadoor", sum := "ec3db7f8f511f3a1b8c493437e0598d9817e95373a2c072d4a4c0b792cd39517", func := "loop.example/s02095/laws.FnExactHmac", spec := "fnExactHmac", inPlace := ["internal/abi.NoEscape", "internal/bytealg.MakeNoZero"], unfollowed := true, recurses := true, named := ["loop.example/s02095/impl.roundWords"], apart := false, laid := [("loop.example/s02095/impl.roundWords", laid_loop_example_s02095_impl_roundWords)], narrowed := true }
def FnExactHmacUptoSaid : Prop := fnExactHmacUptoRow.holds Tryd.pinned (OpenSpec.upto fnExactHmacSpec)

/-- 'laws.FnExactExtract', WHERE WHAT IT READS IS OF BULK AT MOST 1048576: true; the input reads as it did. -/
def fnExactExtractUptoRow : OpenClaim := { program := "ytkefcokmghbmhaadoor", sum := "ec3db7f8f511f3a1b8c493437e0598d9817e95373a2c072d4a4c0b792cd39517", func := "loop.example/s02095/laws.FnExactExtract", spec := "fnExactExtract", inPlace := ["internal/abi.NoEscape", "internal/bytealg.MakeNoZero"], unfollowed := true, recurses := true, named := ["loop.example/s02095/impl.roundWords"], apart := false, laid := [("loop.example/s02095/impl.roundWords", laid_loop_example_s02095_impl_roundWords)], narrowed := true }
def FnExactExtractUptoSaid : Prop := fnExactExtractUptoRow.holds Tryd.pinned (OpenSpec.upto fnExactExtractSpec)

/-- 'laws.FnExactExpandMessage', WHERE WHAT IT READS IS OF BULK AT MOST 1048576: true; the input reads as it did. -/
def fnExactExpandMessageUptoRow : OpenClaim := { program := "ytkefcokmghbmhaadoor", sum := "ec3db7f8f511f3a1b8c493437e0598d9817e95373a2c072d4a4c0b792cd39517", func := "loop.example/s02095/laws.FnExactExpandMessage", spec := "fnExactExpandMessage", inPlace := ["internal/abi.NoEscape", "internal/bytealg.MakeNoZero"], unfollowed := true, recurses := true, named := ["loop.example/s02095/impl.roundWords"], apart := false, laid := [("loop.example/s02095/impl.roundWords", laid_loop_example_s02095_impl_roundWords)], narrowed := true }
def FnExactExpandMessageUptoSaid : Prop := fnExactExpandMessageUptoRow.holds Tryd.pinned (OpenSpec.upto fnExactExpandMessageSpec)

/-- 'laws.FnExactExpand', WHERE WHAT IT READS IS OF BULK AT MOST 1048576: true; the input reads as it did. -/
def fnExactExpandUptoRow : OpenClaim := { program := "ytkefcokmghbmhaadoor", sum := "ec3db7f8f511f3a1b8c493437e0598d9817e95373a2c072d4a4c0b792cd39517", func := "loop.example/s02095/laws.FnExactExpand", spec := "fnExactExpand", inPlace := ["internal/abi.NoEscape", "internal/bytealg.MakeNoZero"], unfollowed := true, recurses := true, named := ["loop.example/s02095/impl.roundWords"], apart := false, laid := [("loop.example/s02095/impl.roundWords", laid_loop_example_s02095_impl_roundWords)], narrowed := true }
def FnExactExpandUptoSaid : Prop := fnExactExpandUptoRow.holds Tryd.pinned (OpenSpec.upto fnExactExpandSpec)

/-- 'laws.FnPoints', WHERE WHAT IT READS IS OF BULK AT MOST 1048576: true; the input reads as it did. -/
def fnPointsUptoRow : OpenClaim := { program := "ytkefcokmghbmhaadoor", sum := "ec3db7f8f511f3a1b8c493437e0598d9817e95373a2c072d4a4c0b792cd39517", func := "loop.example/s02095/laws.FnPoints", spec := "fnPoints", unfollowed := true, recurses := true, named := ["loop.example/s02095/impl.zero", "math/bits.divideError", "math/bits.overflowError"], apart := false, laid := [("loop.example/s02095/impl.zero", laid_loop_example_s02095_impl_zero)], narrowed := true }
def FnPointsUptoSaid : Prop := fnPointsUptoRow.holds Tryd.pinned (OpenSpec.upto fnPointsSpec)

/-- 'laws.FnGroup', WHERE WHAT IT READS IS OF BULK AT MOST 1048576: true; the input reads as it did. -/
def fnGroupUptoRow : OpenClaim := { program := "ytkefcokmghbmhaadoor", sum := "ec3db7f8f511f3a1b8c493437e0598d9817e95373a2c072d4a4c0b792cd39517", func := "loop.example/s02095/laws.FnGroup", spec := "fnGroup", unfollowed := true, recurses := true, named := ["loop.example/s02095/impl.zero", "math/bits.divideError", "math/bits.overflowError"], apart := false, laid := [("loop.example/s02095/impl.zero", laid_loop_example_s02095_impl_zero)], narrowed := true }
def FnGroupUptoSaid : Prop := fnGroupUptoRow.holds Tryd.pinned (OpenSpec.upto fnGroupSpec)

/-- 'laws.FnExactHashToScalar', WHERE WHAT IT READS IS OF BULK AT MOST 1048576: true; the input reads as it did. -/
def fnExactHashToScalarUptoRow : OpenClaim := { program := "ytkefcokmghbmhaadoor", sum := "ec3db7f8f511f3a1b8c493437e0598d9817e95373a2c072d4a4c0b792cd39517", func := "loop.example/s02095/laws.FnExactHashToScalar", spec := "fnExactHashToScalar", inPlace := ["internal/abi.NoEscape", "internal/bytealg.MakeNoZero"], unfollowed := true, recurses := true, named := ["loop.example/s02095/impl.roundWords", "math/bits.divideError", "math/bits.overflowError"], apart := false, laid := [("loop.example/s02095/impl.roundWords", laid_loop_example_s02095_impl_roundWords)], narrowed := true }
def FnExactHashToScalarUptoSaid : Prop := fnExactHashToScalarUptoRow.holds Tryd.pinned (OpenSpec.upto fnExactHashToScalarSpec)

/-- 'laws.FnExactPutMessage', WHERE WHAT IT READS IS OF BULK AT MOST 1048576: true; the input reads as it did. -/
def fnExactPutMessageUptoRow : OpenClaim := { program := "ytkefcokmghbmhaadoor", sum := "ec3db7f8f511f3a1b8c493437e0598d9817e95373a2c072d4a4c0b792cd39517", func := "loop.example/s02095/laws.FnExactPutMessage", spec := "fnExactPutMessage", unfollowed := true, recurses := true, named := ["loop.example/s02095/impl.zero", "math/bits.divideError", "math/bits.overflowError"], apart := false, laid := [("loop.example/s02095/impl.zero", laid_loop_example_s02095_impl_zero)], narrowed := true }
def FnExactPutMessageUptoSaid : Prop := fnExactPutMessageUptoRow.holds Tryd.pinned (OpenSpec.upto fnExactPutMessageSpec)

/-- 'laws.FnExactHashToField', WHERE WHAT IT READS IS OF BULK AT MOST 1048576: true; the input reads as it did. -/
def fnExactHashToFieldUptoRow : OpenClaim := { program := "ytkefcokmghbmhaadoor", sum := "ec3db7f8f511f3a1b8c493437e0598d9817e95373a2c072d4a4c0b792cd39517", func := "loop.example/s02095/laws.FnExactHashToField", spec := "fnExactHashToField", inPlace := ["internal/abi.NoEscape", "internal/bytealg.MakeNoZero"], unfollowed := true, recurses := true, named := ["loop.example/s02095/impl.roundWords", "math/bits.divideError", "math/bits.overflowError"], apart := false, laid := [("loop.example/s02095/impl.roundWords", laid_loop_example_s02095_impl_roundWords)], narrowed := true }
def FnExactHashToFieldUptoSaid : Prop := fnExactHashToFieldUptoRow.holds Tryd.pinned (OpenSpec.upto fnExactHashToFieldSpec)

/-- 'laws.FnExactAgree', WHERE WHAT IT READS IS OF BULK AT MOST 1048576: true; the input reads as it did. -/
def fnExactAgreeUptoRow : OpenClaim := { program := "ytkefcokmghbmhaadoor", sum := "ec3db7f8f511f3a1b8c493437e0598d9817e95373a2c072d4a4c0b792cd39517", func := "loop.example/s02095/laws.FnExactAgree", spec := "fnExactAgree", inPlace := ["internal/abi.NoEscape", "internal/bytealg.MakeNoZero"], unfollowed := true, recurses := true, named := ["loop.example/s02095/impl.zero", "math/bits.divideError", "math/bits.overflowError", "loop.example/s02095/impl.roundWords"], apart := false, laid := [("loop.example/s02095/impl.roundWords", laid_loop_example_s02095_impl_roundWords), ("loop.example/s02095/impl.zero", laid_loop_example_s02095_impl_zero)], narrowed := true }
def FnExactAgreeUptoSaid : Prop := fnExactAgreeUptoRow.holds Tryd.pinned (OpenSpec.upto fnExactAgreeSpec)

end Rows
end Go.Proofs.YtkefcokmghbmhaaDoor
