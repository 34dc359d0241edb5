/- What the proof of FnGroup leans on, part 17: cut out of the texts of this claim's making by a program (wip/tools/pack.py). -/
import Derived.RowKit
section
namespace Go.Proofs.YtoejhekppfgmpaaDoor.Sh
variable {σ : Type} (C : σ → List Int → σ)
/-- one byte more -/
def put (s : σ × List Int) (b : Int) : σ × List Int := if s.2.length = 63 then (C s.1 (s.2 ++ [b]), []) else (s.1, s.2 ++ [b])
/-- a text more -/
def feedL (s : σ × List Int) (xs : List Int) : σ × List Int := xs.foldl (put C) s

/-- the text's end: the bit, the zeros, the length in eight bytes -/
def pad (n : Nat) : List Int := 128 :: List.replicate ((119 - n % 64) % 64) 0
end Go.Proofs.YtoejhekppfgmpaaDoor.Sh
end
