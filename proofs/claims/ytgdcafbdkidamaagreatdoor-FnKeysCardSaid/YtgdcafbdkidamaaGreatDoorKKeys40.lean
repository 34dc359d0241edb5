/- What the proof of FnKeys leans on, part 40: cut out of the texts of this claim's making by a program (wip/tools/pack.py). -/
import Derived.Test.YtgdcafbdkidamaaGreatDoorKKeys10
import Derived.Test.YtgdcafbdkidamaaGreatDoorKKeys12
import Derived.Test.YtgdcafbdkidamaaGreatDoorKKeys13
import Derived.Test.YtgdcafbdkidamaaGreatDoorKKeys38
import Derived.Test.YtgdcafbdkidamaaGreatDoorKKeys39
import Derived.OpenShut
section
namespace Go.Proofs.YtgdcafbdkidamaaGreatDoor.Pure
open Go.RowKit Go.Proofs.YtgdcafbdkidamaaGreatDoor.B Go.Proofs.YtgdcafbdkidamaaGreatDoor.H0 Go.Proofs.YtgdcafbdkidamaaGreatDoorW.PrintWords Go.Proofs.YtgdcafbdkidamaaGreatDoorW.PrintLast Go.Proofs.YtgdcafbdkidamaaGreatDoorW.PrintMore
set_option linter.unusedVariables false
set_option linter.unusedSimpArgs false
namespace Draw
theorem w64 {n : Int} (h0 : -9223372036854775808 ≤ n) (h : n < 9223372036854775808) : wrap64 n = n := by unfold wrap64; omega
theorem u64_eq (n : Int) : IntKind.u64.wrap n = n % 18446744073709551616 := by simp [IntKind.wrap, IntKind.bits, IntKind.signed]
theorem u64_range (n : Int) : 0 ≤ IntKind.u64.wrap n ∧ IntKind.u64.wrap n < 18446744073709551616 := by rw [u64_eq]; omega
theorem tmod_range (x : Int) {n : Int} (h : 1 ≤ n) : -n < Int.tmod x n ∧ Int.tmod x n < n := by
  have h1 := Int.natAbs_tmod x n
  have h2 := Nat.mod_lt x.natAbs (show 0 < n.natAbs by omega)
  omega
theorem tmod_nonneg {x n : Int} (h0 : 0 ≤ x) (h : 1 ≤ n) : 0 ≤ Int.tmod x n := by
  rw [Int.tmod_eq_emod_of_nonneg h0]; exact Int.emod_nonneg _ (by omega)

theorem up {α : Type} {g : Nat → Option α} (h : ∀ k, LeO (g k) (g (k + 1))) {r : α} : ∀ {k k' : Nat}, k ≤ k' → g k = some r → g k' = some r := by
  intro k k' hk hr
  induction hk with
  | refl => exact hr
  | step _ ih => exact h _ _ ih

theorem take (l : List Int) {p n : Int} (hl : l.length ≤ 1048576) (hp0 : 0 ≤ p) (hp : p ≤ 1125899906842624) (hn : 1 ≤ n) {k : Nat} (hk : 1 ≤ k) :
    ∃ v, -n < v ∧ v < n ∧ spec_l1Take.f k l p n = some (v, p + 1) := by
  obtain ⟨k, rfl⟩ : ∃ j, k = j + 1 := ⟨k - 1, by omega⟩
  unfold spec_l1Take.f
  rw [if_neg (by omega)]
  have e1 : wrap64 (p + 1) = p + 1 := w64 (by omega) (by omega)
  have e7 : wrap64 (wrap64 (p * 7) + 3) = p * 7 + 3 := by rw [w64 (n := p * 7) (by omega) (by omega), w64 (by omega) (by omega)]
  by_cases hz : (l.length : Int) = 0
  · rw [hz]
    exact ⟨0, by omega, by omega, by simp [spec_l1Take.j0, e1]⟩
  · rw [show ((l.length : Int) == 0) = false by simpa using hz]
    simp only [spec_l1Take.j0, e7, e1]
    rw [if_neg (by decide)]
    have hL : 1 ≤ (l.length : Int) := by omega
    have a0 := tmod_nonneg hp0 hL
    have a1 := (tmod_range p hL).2
    have b0 := tmod_nonneg (show 0 ≤ p * 7 + 3 by omega) hL
    have b1 := (tmod_range (p * 7 + 3) hL).2
    have fin : ∀ x : Int, ∃ v, -n < v ∧ v < n ∧ some (Int.tmod x n, p + 1) = some (v, p + 1) := fun x => ⟨_, (tmod_range x hn).1, (tmod_range x hn).2, rfl⟩
    have hn0 : ¬ n = 0 := by omega
    by_cases c1 : p < (l.length : Int)
    · rw [if_pos c1]
      by_cases c2 : n ≤ 256
      · rw [if_pos c2, if_pos hp0, if_neg hn0]; exact fin _
      · rw [if_neg c2, if_neg hz, if_pos a0, if_pos a1, if_pos b0, if_pos b1, if_neg hn0]; exact fin _
    · rw [if_neg c1, if_neg hz, if_pos a0, if_pos a1, if_pos b0, if_pos b1, if_neg hn0]; exact fin _

theorem bytes_go (l : List Int) (hl : l.length ≤ 1048576) {n : Int} (hn : n < 1000000) : ∀ (m k : Nat) (p : Int) (acc : List Int) (i : Int), 0 ≤ i → n ≤ i + m → i ≤ n ∨ m = 0 → m + 1 < k → acc.length + m ≤ 1000000 → 0 ≤ p → p + m ≤ 1125899906842624 →
    ∃ s, spec_l1Bytes.l0 k l p n acc i = some (s, p + (if i < n then n - i else 0)) ∧ s.size = acc.length + (n - i).toNat
  | m, k, p, acc, i, h0, h1, h2, hk, ha, hp0, hp => by
    obtain ⟨k, rfl⟩ : ∃ j, k = j + 1 := ⟨k - 1, by omega⟩
    simp only [spec_l1Bytes.l0]
    by_cases hi : i < n
    · obtain ⟨m, rfl⟩ : ∃ j, m = j + 1 := ⟨m - 1, by omega⟩
      rw [if_pos hi, if_pos hi]
      obtain ⟨v, _, _, hv⟩ := take l (p := p) (n := 256) hl hp0 (by omega) (by omega) (k := k) (by omega)
      rw [hv]
      simp only [Option.bind_some]
      rw [if_pos (by omega), w64 (by omega) (by omega)]
      obtain ⟨s, hs, hz⟩ := bytes_go l hl hn m k (p + 1) (acc ++ [v % 256]) (i + 1) (by omega) (by omega) (by omega) (by omega) (by simp; omega) (by omega) (by omega)
      refine ⟨s, ?_, by rw [hz]; simp; omega⟩
      rw [hs]
      congr 2
      split <;> omega
    · rw [if_neg hi, if_neg hi]
      exact ⟨_, by rw [Int.add_zero], by rw [strOfNums_size]; omega⟩

theorem bytes (l : List Int) (hl : l.length ≤ 1048576) {n p : Int} (hn : n ≤ 1000) (hp0 : 0 ≤ p) (hp : p ≤ 1000000000) {k : Nat} (hk : 1002 ≤ k) :
    ∃ s q, spec_l1Bytes.f k l p n = some (s, q) ∧ s.size = n.toNat ∧ p ≤ q ∧ q ≤ p + 1000 := by
  unfold spec_l1Bytes.f
  obtain ⟨s, hs, hz⟩ := bytes_go l hl (n := n) (by omega) n.toNat k p [] 0 (by omega) (by omega) (by omega) (by omega) (by simp; omega) hp0 (by omega)
  refine ⟨s, _, hs, by simpa using hz, ?_, ?_⟩ <;> split <;> omega

theorem word_go (s : ByteArray) (hs : s.size ≤ 1000000) : ∀ (m k i : Nat) (r : Int), i + m = s.size → m < k → 0 ≤ r → r < 18446744073709551616 → ∃ v, spec_l2Word.l0 k s r i = some v ∧ 0 ≤ v ∧ v < 18446744073709551616
  | m, k, i, r, hi, hk, h0, h1 => by
    obtain ⟨k, rfl⟩ : ∃ j, k = j + 1 := ⟨k - 1, by omega⟩
    simp only [spec_l2Word.l0]
    by_cases h : (i : Int) < s.size
    · obtain ⟨m, rfl⟩ : ∃ j, m = j + 1 := ⟨m - 1, by omega⟩
      rw [if_pos h, if_pos (by omega), show wrap64 ((i : Int) + 1) = ((i + 1 : Nat) : Int) by rw [w64 (by omega) (by omega)]; omega]
      have hr := u64_range (IntKind.u64.wrap (r * 256) + IntKind.u64.wrap (bt s i))
      exact word_go s hs m k (i + 1) _ (by omega) (by omega) hr.1 hr.2
    · rw [if_neg h]; exact ⟨r, rfl, h0, h1⟩
theorem word (s : ByteArray) (hs : s.size ≤ 1000000) {k : Nat} (hk : s.size < k) : ∃ v, spec_l2Word.f k s = some v ∧ 0 ≤ v ∧ v < 18446744073709551616 :=
  word_go s hs s.size k 0 0 (by omega) hk (by omega) (by omega)

theorem drawWord (l : List Int) (hl : l.length ≤ 1048576) {p : Int} (hp0 : 0 ≤ p) (hp : p ≤ 900000000) {k : Nat} (hk : 1002 ≤ k) :
    ∃ v q, spec_l2DrawWord.f k l p = some (v, q) ∧ 0 ≤ v ∧ v < 18446744073709551616 ∧ p ≤ q ∧ q ≤ p + 1002 := by
  unfold spec_l2DrawWord.f
  obtain ⟨h, _, _, e1⟩ := take l (p := p) (n := 12) hl hp0 (by omega) (by omega) (k := k) (by omega)
  rw [e1]
  simp only [Option.bind_some]
  obtain ⟨a, _, _, e2⟩ := take l (p := p + 1) (n := 5) hl (by omega) (by omega) (by omega) (k := k) (by omega)
  rw [e2]
  simp only [Option.bind_some]
  obtain ⟨s, q, e3, hs, hq0, hq1⟩ := bytes l hl (n := 8) (p := p + 1 + 1) (by omega) (by omega) (by omega) hk
  rw [e3]
  simp only [Option.bind_some]
  obtain ⟨v, e4, v0, v1⟩ := word s (by omega) (k := k) (by omega)
  rw [e4]
  simp only [Option.bind_some]
  have m0 := tmod_nonneg v0 (show (1 : Int) ≤ 2305843009213693951 by decide)
  have m1 := (tmod_range v (show (1 : Int) ≤ 2305843009213693951 by decide)).2
  repeat' split
  · exact ⟨_, _, rfl, (u64_range _).1, (u64_range _).2, by omega, by omega⟩
  · exact ⟨_, _, rfl, (u64_range _).1, (u64_range _).2, by omega, by omega⟩
  · exact ⟨_, _, rfl, (u64_range _).1, (u64_range _).2, by omega, by omega⟩
  · exact ⟨_, _, rfl, m0, by omega, by omega, by omega⟩
  · exact ⟨_, _, rfl, v0, v1, by omega, by omega⟩

theorem long_loop (b : ByteArray) (hb : b.size ≤ 1000) {n : Int} (hn0 : 0 < n) (hn : n ≤ 100000000)
    (rec : ∀ n' : Int, 0 < n' → n' < n → ∃ K t, spec_l1Long.f K n' b = some t ∧ (t.size : Int) ≤ n' + 1000) : ∀ (m : Nat) (s : ByteArray), 1 ≤ s.size → (s.size : Int) ≤ n + 1000 → n ≤ s.size + m →
    ∃ K t, spec_l1Long.l0 K n b s = some t ∧ (t.size : Int) ≤ n + 1000
  | m, s, hs, hs1, hm => by
    by_cases hd : (s.size : Int) * 2 ≤ n
    · obtain ⟨m, rfl⟩ : ∃ j, m = j + 1 := ⟨m - 1, by omega⟩
      obtain ⟨K, t, ht, hz⟩ := long_loop b hb hn0 hn rec m (s ++ s) (by simp; omega) (by simp; omega) (by simp; omega)
      refine ⟨K + 1, t, ?_, hz⟩
      simp only [spec_l1Long.l0]
      rw [w64 (by omega) (by omega), if_pos hd, if_pos hn0, if_pos (by omega), ht]
    · by_cases hlt : (s.size : Int) < n
      · obtain ⟨K, t, ht, hz⟩ := rec (n - s.size) (by omega) (by omega)
        refine ⟨K + 1, s ++ t, ?_, by simp; omega⟩
        simp only [spec_l1Long.l0]
        rw [w64 (n := (s.size : Int) * 2) (by omega) (by omega), if_neg hd, if_pos hlt, w64 (by omega) (by omega), ht]
        simp only [Option.bind_some]
        rw [if_pos (by omega)]
      · refine ⟨1, s, ?_, hs1⟩
        simp only [spec_l1Long.l0]
        rw [w64 (n := (s.size : Int) * 2) (by omega) (by omega), if_neg hd, if_neg hlt]

theorem long_rec (b : ByteArray) (hb0 : 1 ≤ b.size) (hb : b.size ≤ 1000) : ∀ (m : Nat) (n : Int), 0 < n → n ≤ m → n ≤ 100000000 → ∃ K t, spec_l1Long.f K n b = some t ∧ (t.size : Int) ≤ n + 1000
  | 0, n, h0, h1, _ => by omega
  | m + 1, n, h0, h1, hn => by
    obtain ⟨K, t, ht, hz⟩ := long_loop b hb h0 hn (fun n' a c => long_rec b hb0 hb m n' a (by omega) (by omega)) n.toNat b hb0 (by omega) (by omega)
    refine ⟨K + 2, t, ?_, hz⟩
    simp only [spec_l1Long.f, spec_l1Long.j0]
    rw [if_pos h0, ht]

theorem long (b : ByteArray) (hb0 : 1 ≤ b.size) (hb : b.size ≤ 1000) {n : Int} (h0 : 0 < n) (hn : n ≤ 100000000) : ∃ K t, (∀ k, K ≤ k → spec_l1Long.f k n b = some t) ∧ (t.size : Int) ≤ n + 1000 := by
  obtain ⟨K, t, ht, hz⟩ := long_rec b hb0 hb n.toNat n h0 (by omega) hn
  exact ⟨K, t, fun k hk => up (g := fun k => spec_l1Long.f k n b) (spec_l1Long.mono n b) hk ht, hz⟩

theorem some_ (l : List Int) (hl : l.length ≤ 1048576) {p : Int} (hp0 : 0 ≤ p) (hp : p ≤ 800000000) :
    ∃ K s q, (∀ k, K ≤ k → spec_l1Some.f k l p = some (s, q)) ∧ s.size ≤ 70000 ∧ p ≤ q ∧ q ≤ p + 1002 := by
  obtain ⟨h, _, _, e1⟩ := take l (p := p) (n := 80) hl hp0 (by omega) (by omega) (k := 1) (by omega)
  obtain ⟨a, a0, a1, e2⟩ := take l (p := p + 1) (n := 40) hl (by omega) (by omega) (by omega) (k := 1) (by omega)
  have e1' : ∀ k, 1 ≤ k → spec_l1Take.f k l p 80 = some (h, p + 1) := fun k hk => up (g := fun k => spec_l1Take.f k l p 80) (spec_l1Take.mono _ _ _) hk e1
  have e2' : ∀ k, 1 ≤ k → spec_l1Take.f k l (p + 1) 40 = some (a, p + 1 + 1) := fun k hk => up (g := fun k => spec_l1Take.f k l (p + 1) 40) (spec_l1Take.mono _ _ _) hk e2
  have t1 := tmod_range a (show (1 : Int) ≤ 2 by decide)
  obtain ⟨K1, t, ht, hz⟩ := long (⟨#[105, 110]⟩ : ByteArray) (by decide) (by decide) (n := 65535 + Int.tmod a 2) (by omega) (by omega)
  obtain ⟨s, q, e3, hs, hq0, hq1⟩ := bytes l hl (n := a) (p := p + 1 + 1) (by omega) (by omega) (by omega) (k := 1002) (by omega)
  have e3' : ∀ k, 1002 ≤ k → spec_l1Bytes.f k l (p + 1 + 1) a = some (s, q) := fun k hk => up (g := fun k => spec_l1Bytes.f k l (p + 1 + 1) a) (spec_l1Bytes.mono _ _ _) hk e3
  by_cases h1 : h = 79
  · refine ⟨K1 + 1, t, p + 1 + 1, fun k hk => ?_, by omega, by omega, by omega⟩
    unfold spec_l1Some.f
    rw [e1' k (by omega)]; simp only [Option.bind_some]
    rw [e2' k (by omega)]; simp only [Option.bind_some]
    rw [if_pos h1, w64 (by omega) (by omega), ht k (by omega)]; rfl
  · by_cases h2 : h < 8
    · refine ⟨1, ⟨#[]⟩, p + 1 + 1, fun k hk => ?_, by decide, by omega, by omega⟩
      unfold spec_l1Some.f
      rw [e1' k (by omega)]; simp only [Option.bind_some]
      rw [e2' k (by omega)]; simp only [Option.bind_some]
      rw [if_neg h1, if_pos h2]
    · refine ⟨1002, s, q, fun k hk => ?_, by omega, by omega, by omega⟩
      unfold spec_l1Some.f
      rw [e1' k (by omega)]; simp only [Option.bind_some]
      rw [e2' k (by omega)]; simp only [Option.bind_some]
      rw [if_neg h1, if_neg h2, e3' k hk]; rfl
end Draw
end Go.Proofs.YtgdcafbdkidamaaGreatDoor.Pure
end
