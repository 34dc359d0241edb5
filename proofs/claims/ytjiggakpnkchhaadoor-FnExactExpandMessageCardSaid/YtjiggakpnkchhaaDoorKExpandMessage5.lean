/- What the proof of FnExactExpandMessage leans on, part 5: cut out of the texts of this claim's making by a program (wip/tools/pack.py). -/
import Derived.Test.YtjiggakpnkchhaaDoorKExpandMessage0
import Derived.Test.YtjiggakpnkchhaaDoorKExpandMessage1
import Derived.Test.YtjiggakpnkchhaaDoorKExpandMessage2
import Derived.Test.YtjiggakpnkchhaaDoorKExpandMessage3
import Derived.Test.YtjiggakpnkchhaaDoorKExpandMessage4
import Derived.ArgAppend
import Derived.Below
import Derived.BigQuiet
import Derived.Deep.AppendLies
import Derived.Deep.CutBlock
import Derived.Deep.DeepCutAuto
import Derived.Deep.Draws
import Derived.Deep.LoopGhost
import Derived.Deep.OwnRows
import Derived.Deep.QuietTactic
import Derived.Deep.RegionHeld3
import Derived.KernelRfl
import Derived.Laws.BitsLemmas
import Derived.Laws.BytesArg
import Derived.Laws.IdiomCopy
import Derived.Laws.MakeOwn
import Derived.Laws.OwnMore
import Derived.Laws.Rows
import Derived.Laws.Slices
import Derived.Laws.StructEq
import Derived.Lib.AppendStr
import Derived.Lib.ConvBytes
import Derived.Maps.AppendAt
import Derived.OrdersHeld
import Derived.OwnWalk
import Derived.RowKit
import Derived.RowKit3
import Derived.Tactics
import Derived.Test.YtjiggakpnkchhaaDoorProg
import Derived.WalkKit
import Derived.WideLaws
section
namespace Go.Proofs.YtjiggakpnkchhaaDoor.Sx
open Go.RowKit Go.Proofs.YtjiggakpnkchhaaDoor.B Go.Proofs.YtjiggakpnkchhaaDoorW.PrintWords Go.Proofs.YtjiggakpnkchhaaDoorW.PrintLast Go.Proofs.YtjiggakpnkchhaaDoorW.PrintMore
set_option linter.unusedVariables false
set_option linter.unusedSimpArgs false
/-- eight words -/
structure W8 where
  (a b c d e f g h : Int)
/-- the two sums of a round -/
def t1 (s : W8) (k w : Int) : Int :=
  ((((s.h + Go.bits .xor .u32 (Go.bits .xor .u32 (tn s.e 6) (tn s.e 11)) (tn s.e 25)) % 4294967296 + Go.bits .xor .u32 (Go.bits .and .u32 s.e s.f) (Go.bits .and .u32 (Go.bits .xor .u32 IntKind.u32.max s.e) s.g)) % 4294967296 + k) % 4294967296 + w) % 4294967296
def t2 (s : W8) : Int :=
  (Go.bits .xor .u32 (Go.bits .xor .u32 (tn s.a 2) (tn s.a 13)) (tn s.a 22) + Go.bits .xor .u32 (Go.bits .xor .u32 (Go.bits .and .u32 s.a s.b) (Go.bits .and .u32 s.a s.c)) (Go.bits .and .u32 s.b s.c)) % 4294967296
def rnd (s : W8) (k w : Int) : W8 := ⟨(t1 s k w + t2 s) % 4294967296, s.a, s.b, s.c, (s.d + t1 s k w) % 4294967296, s.e, s.f, s.g⟩
def rnds (ks ws : List Int) (s : W8) : Nat → W8
  | 0 => s
  | n + 1 => rnd (rnds ks ws s n) (rd ks n) (rd ws n)
def of8 (h : List Int) : W8 := ⟨rd h 0, rd h 1, rd h 2, rd h 3, rd h 4, rd h 5, rd h 6, rd h 7⟩
def sum8 (h : List Int) (s : W8) : List Int :=
  [(rd h 0 + s.a) % 4294967296, (rd h 1 + s.b) % 4294967296, (rd h 2 + s.c) % 4294967296, (rd h 3 + s.d) % 4294967296, (rd h 4 + s.e) % 4294967296, (rd h 5 + s.f) % 4294967296, (rd h 6 + s.g) % 4294967296, (rd h 7 + s.h) % 4294967296]
/-- the eight words behind a block that begins at p -/
def block (ks h m : List Int) (p : Int) : List Int := sum8 h (rnds ks (sched m p) (of8 h) 64)
theorem block_len (ks h m : List Int) (p : Int) : (block ks h m p).length = 8 := rfl

theorem block_go (h ks ws : List Int) (hh : h.length = 8) (hk : ks.length = 64) (hw : ws.length = 64) (s0 : W8) : ∀ (d n k : Nat), n + d = 64 → d < k →
    spec_l1Block.l0 k h ks ws (rnds ks ws s0 n).a (rnds ks ws s0 n).b (rnds ks ws s0 n).c (rnds ks ws s0 n).d (rnds ks ws s0 n).e (rnds ks ws s0 n).f (rnds ks ws s0 n).g (rnds ks ws s0 n).h n = some (sum8 h (rnds ks ws s0 64))
  | 0, n, k, hn, hd => by
    obtain ⟨k, rfl⟩ : ∃ j, k = j + 1 := ⟨k - 1, by omega⟩
    obtain rfl : n = 64 := by omega
    rw [spec_l1Block.l0, if_neg (by decide), if_pos (by omega), if_pos (by omega), if_pos (by omega), if_pos (by omega), if_pos (by omega), if_pos (by omega), if_pos (by omega), if_pos (by omega)]
    rfl
  | d + 1, n, k, hn, hd => by
    obtain ⟨k, rfl⟩ : ∃ j, k = j + 1 := ⟨k - 1, by omega⟩
    have ih := block_go h ks ws hh hk hw s0 d (n + 1) k (by omega) (by omega)
    rw [rnds] at ih
    generalize rnds ks ws s0 n = s at *
    rw [spec_l1Block.l0, if_pos (by omega)]
    rw [turn_tn _ 6 (by decide) (by decide), Option.bind_some, turn_tn _ 11 (by decide) (by decide), Option.bind_some, turn_tn _ 25 (by decide) (by decide), Option.bind_some]
    rw [if_pos (by omega), if_pos (by omega), if_pos (by omega)]
    rw [turn_tn _ 2 (by decide) (by decide), Option.bind_some, turn_tn _ 13 (by decide) (by decide), Option.bind_some, turn_tn _ 22 (by decide) (by decide), Option.bind_some]
    rw [w64 (n := (n : Int) + 1) (by omega) (by omega)]
    rw [show ((n + 1 : Nat) : Int) = (n : Int) + 1 by omega] at ih
    exact ih

theorem block_spec (ks h m : List Int) (p : Int) (hh : h.length = 8) (hk : ks.length = 64) (hp : 0 ≤ p) (hm : p + 64 ≤ m.length) (hx : m.length ≤ 1000000000000) {k : Nat} (hd : 80 ≤ k) :
    spec_l1Block.f k h ks m p = some (block ks h m p) := by
  unfold spec_l1Block.f
  rw [sched_spec m p hp hm hx hd, Option.bind_some]
  rw [if_pos (by omega), if_pos (by omega), if_pos (by omega), if_pos (by omega), if_pos (by omega), if_pos (by omega), if_pos (by omega), if_pos (by omega)]
  exact block_go h ks (sched m p) hh hk (sched_len m p) (of8 h) 64 0 k (by omega) (by omega)
end Go.Proofs.YtjiggakpnkchhaaDoor.Sx
end
section
namespace Go.Proofs.YtjiggakpnkchhaaDoor.C
open Go.RowKit Go.Proofs.YtjiggakpnkchhaaDoorW.PrintWords Go.Proofs.YtjiggakpnkchhaaDoorW.PrintLast Go.Proofs.YtjiggakpnkchhaaDoorW.PrintMore
attribute [local go_sem] max2_int min2_int max_two min_two max_three min_three max_four min_four   -- for this text's walks alone
set_option linter.unusedVariables false
set_option linter.unusedSimpArgs false
def errW : Option Int → Value
  | none => .nilIface
  | some c => .iface 0 (.int .i64 c)
theorem errW_none : errW none = .nilIface := rfl
theorem errW_some (c : Int) : errW (some c) = .iface 0 (.int .i64 c) := rfl

theorem info5 : (Tryd.prog.info? 5).map (fun i => (i.zero, i.size, i.bytes)) = some (some (.int .u8 0), 1, 1) := by kernel_rfl
end Go.Proofs.YtjiggakpnkchhaaDoor.C
end
section
namespace Go.Proofs.YtjiggakpnkchhaaDoor.E
open Go.RowKit Go.Proofs.YtjiggakpnkchhaaDoorW.PrintWords Go.Proofs.YtjiggakpnkchhaaDoorW.PrintLast Go.Proofs.YtjiggakpnkchhaaDoorW.PrintMore
attribute [local go_sem] max2_int min2_int max_two min_two max_three min_three max_four min_four   -- for this text's walks alone
set_option linter.unusedVariables false
set_option linter.unusedSimpArgs false
def errW : Option Int → Value
  | none => .nilIface
  | some c => .iface 0 (.int .i64 c)
theorem errW_none : errW none = .nilIface := rfl
theorem errW_some (c : Int) : errW (some c) = .iface 0 (.int .i64 c) := rfl

end Go.Proofs.YtjiggakpnkchhaaDoor.E
end
