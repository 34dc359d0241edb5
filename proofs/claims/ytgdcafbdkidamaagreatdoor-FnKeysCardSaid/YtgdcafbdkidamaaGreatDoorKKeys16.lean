/- What the proof of FnKeys leans on, part 16: cut out of the texts of this claim's making by a program (wip/tools/pack.py). -/
import Derived.RowKit
section
namespace Go.Proofs.YtgdcafbdkidamaaGreatDoor.Sh
variable {σ : Type} (C : σ → List Int → σ)
/-- one byte more -/
def put (s : σ × List Int) (b : Int) : σ × List Int := if s.2.length = 63 then (C s.1 (s.2 ++ [b]), []) else (s.1, s.2 ++ [b])
/-- a text more -/
def feedL (s : σ × List Int) (xs : List Int) : σ × List Int := xs.foldl (put C) s

theorem feed_nil (s : σ × List Int) : feedL C s [] = s := rfl
theorem feed_append (s : σ × List Int) (xs ys : List Int) : feedL C s (xs ++ ys) = feedL C (feedL C s xs) ys := List.foldl_append ..
theorem feed_cons (s : σ × List Int) (x : Int) (xs : List Int) : feedL C s (x :: xs) = feedL C (put C s x) xs := rfl

theorem feed_short : ∀ (xs : List Int) (st : σ) (buf : List Int), buf.length + xs.length < 64 → feedL C (st, buf) xs = (st, buf ++ xs)
  | [], st, buf, _ => by simp [feedL]
  | x :: r, st, buf, h => by
    simp only [List.length_cons] at h
    rw [feed_cons, put, if_neg (by show ¬ buf.length = 63; omega)]
    rw [feed_short r st (buf ++ [x]) (by simp; omega)]
    simp
theorem feed_full (xs : List Int) (st : σ) (buf : List Int) (h : buf.length + xs.length = 64) (hb : buf.length < 64) : feedL C (st, buf) xs = (C st (buf ++ xs), []) := by
  have hne : xs ≠ [] := by rintro rfl; simp at h; omega
  obtain ⟨ys, y, rfl⟩ : ∃ ys y, xs = ys ++ [y] := ⟨xs.dropLast, xs.getLast hne, (List.dropLast_concat_getLast hne).symm⟩
  simp only [List.length_append, List.length_singleton] at h
  rw [feed_append, feed_short C ys st buf (by omega), feed_cons, feed_nil, put, if_pos (by simp; omega)]
  simp
/-- block by block -/
def blocks : Nat → σ → List Int → σ
  | 0, st, _ => st
  | n + 1, st, xs => blocks n (C st (xs.take 64)) (xs.drop 64)
theorem feed_blocks : ∀ (n : Nat) (st : σ) (xs : List Int), xs.length = 64 * n → feedL C (st, []) xs = (blocks C n st xs, [])
  | 0, st, xs, h => by
    have : xs = [] := List.length_eq_zero_iff.1 (by omega)
    subst this; rfl
  | n + 1, st, xs, h => by
    have e : xs = xs.take 64 ++ xs.drop 64 := (List.take_append_drop 64 xs).symm
    rw [e, feed_append, feed_full C (xs.take 64) st [] (by simp; omega) (by simp)]
    simp only [List.nil_append]
    rw [feed_blocks n _ (xs.drop 64) (by simp; omega), ← e]
    rfl
/-- the text's end: the bit, the zeros, the length in eight bytes -/
def pad (n : Nat) : List Int := 128 :: List.replicate ((119 - n % 64) % 64) 0
theorem pad_len (n : Nat) : (n + (pad n).length + 8) % 64 = 0 := by
  unfold pad; simp only [List.length_cons, List.length_replicate]; omega
end Go.Proofs.YtgdcafbdkidamaaGreatDoor.Sh
end
