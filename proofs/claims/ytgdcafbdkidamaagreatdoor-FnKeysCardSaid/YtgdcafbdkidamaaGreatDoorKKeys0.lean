/- What the proof of FnKeys leans on, part 0: cut out of the texts of this claim's making by a program (wip/tools/pack.py). -/
section
namespace NT
theorem pigeon : ∀ (m : Nat) (f : Nat → Nat), (∀ i, i < m + 1 → f i < m) → ∃ i j, i < j ∧ j < m + 1 ∧ f i = f j
  | 0, f, h => absurd (h 0 (by omega)) (by omega)
  | m + 1, f, h => by
    by_cases hx : ∃ i, i < m + 1 ∧ f i = f (m + 1)
    · obtain ⟨i, hi, e⟩ := hx
      exact ⟨i, m + 1, hi, by omega, e⟩
    · have hn : ∀ i, i < m + 1 → f i ≠ f (m + 1) := fun i hi e => hx ⟨i, hi, e⟩
      obtain ⟨i, j, hij, hj, e⟩ := pigeon m (fun i => if f i = m then f (m + 1) else f i) (by
        intro i hi
        have a := h i (by omega)
        have b := h (m + 1) (by omega)
        have c := hn i hi
        split <;> omega)
      refine ⟨i, j, hij, by omega, ?_⟩
      have ci := hn i (by omega)
      have cj := hn j (by omega)
      split at e <;> split at e <;> omega

theorem onto {m : Nat} {f : Nat → Nat} (h : ∀ i, i < m → f i < m) (inj : ∀ i j, i < j → j < m → f i ≠ f j) {v : Nat} (hv : v < m) : ∃ i, i < m ∧ f i = v := by
  by_cases hx : ∃ i, i < m ∧ f i = v
  · exact hx
  · exfalso
    obtain ⟨i, j, hij, hj, e⟩ := pigeon m (fun i => if i < m then f i else v) (by
      intro i hi
      split
      · exact h i (by assumption)
      · exact hv)
    rw [if_pos (by omega)] at e
    split at e
    · exact inj i j hij (by assumption) e
    · exact hx ⟨i, by omega, e⟩

/-- a to the e modulo n, quickly -/
def pw (n : Nat) : Nat → Nat → Nat → Nat
  | 0, _, _ => 1 % n
  | k + 1, a, e => if e = 0 then 1 % n else if e % 2 = 1 then a * pw n k (a * a % n) (e / 2) % n else pw n k (a * a % n) (e / 2)

theorem pw_eq (n : Nat) : ∀ (k a e : Nat), e < 2 ^ k → pw n k a e = a ^ e % n
  | 0, a, e, h => by
    have : e = 0 := by simpa using h
    subst this; simp [pw]
  | k + 1, a, e, h => by
    have ih := pw_eq n k (a * a % n) (e / 2) (by rw [Nat.pow_succ] at h; omega)
    rw [← Nat.pow_mod] at ih
    unfold pw
    split
    · subst_vars; simp
    · rw [ih]
      have h2 : (a * a) ^ (e / 2) = a ^ (2 * (e / 2)) := by rw [← Nat.pow_two, ← Nat.pow_mul]
      split
      · have he : e = 2 * (e / 2) + 1 := by omega
        rw [Nat.mul_mod, Nat.mod_mod, ← Nat.mul_mod, h2]
        conv => rhs; rw [he, Nat.pow_succ, Nat.mul_comm]
      · have he : e = 2 * (e / 2) := by omega
        rw [h2]
        conv => rhs; rw [he]

/-- no proper divisors -/
def Pr (q : Nat) : Prop := ∀ d, d ∣ q → d = 1 ∨ d = q

def chk : Nat → Nat → Nat → Bool
  | 0, _, _ => true
  | k + 1, q, d => q % d != 0 && chk k q (d + 1)

theorem chk_spec : ∀ (k q d : Nat), chk k q d = true → ∀ x, d ≤ x → x < d + k → ¬ x ∣ q
  | 0, _, _, _, x, h1, h2 => by omega
  | k + 1, q, d, h, x, h1, h2 => by
    simp only [chk, Bool.and_eq_true, bne_iff_ne] at h
    by_cases e : x = d
    · subst e; exact fun hd => h.1 (Nat.mod_eq_zero_of_dvd hd)
    · exact chk_spec k q (d + 1) h.2 x (by omega) (by omega)

theorem pr_of (q s : Nat) (hq : 1 < q) (hs : q < (s + 2) * (s + 2)) (h : chk s q 2 = true) : Pr q := by
  intro d hd
  by_cases h1 : d = 1
  · exact .inl h1
  by_cases h2 : d = q
  · exact .inr h2
  exfalso
  have key : ∀ x, x ∣ q → x ≠ 1 → s + 2 ≤ x := by
    intro x hx h1
    have h0 : x ≠ 0 := by rintro rfl; have := Nat.eq_zero_of_zero_dvd hx; omega
    by_cases hl : x < 2 + s
    · exact absurd hx (chk_spec s q 2 h x (by omega) hl)
    · omega
  obtain ⟨e, rfl⟩ := hd
  have ha := key d ⟨e, rfl⟩ h1
  have hb := key e ⟨d, Nat.mul_comm _ _⟩ (by rintro rfl; exact h2 (by simp))
  have := Nat.mul_le_mul ha hb
  omega

theorem pr_coprime {q c : Nat} (h : Pr q) (hc : ¬ q ∣ c) : Nat.Coprime c q := by
  rcases h _ (Nat.gcd_dvd_right c q) with e | e
  · exact e
  · exact absurd (e ▸ Nat.gcd_dvd_left c q) hc

def prod : List Nat → Nat
  | [] => 1
  | q :: r => q * prod r

theorem coprime_prod {c : Nat} : ∀ {qs : List Nat}, (∀ q ∈ qs, Pr q) → (∀ q ∈ qs, ¬ q ∣ c) → Nat.Coprime c (prod qs)
  | [], _, _ => by simp [prod]
  | q :: r, hp, hn => by
    have a := pr_coprime (hp q (by simp)) (hn q (by simp))
    have b := coprime_prod (qs := r) (fun x hx => hp x (List.mem_cons_of_mem _ hx)) (fun x hx => hn x (List.mem_cons_of_mem _ hx))
    exact Nat.Coprime.mul_right a b

/-- the certificate of a modulus with a primitive root -/
structure Root (n g : Nat) (qs : List Nat) : Prop where
  big : 2 < n
  prod : prod qs = n - 1
  pr : ∀ q ∈ qs, Pr q
  small : n ≤ 2 ^ 62
  one' : (pw n 62 g (n - 1) == 1) = true
  ne' : ∀ q ∈ qs, (pw n 62 g ((n - 1) / q) != 1) = true

section
variable {n g : Nat} {qs : List Nat}
theorem Root.one (R : Root n g qs) : g ^ (n - 1) % n = 1 := by
  have := R.big; have := R.small
  rw [← pw_eq n 62 _ _ (by omega)]; exact beq_iff_eq.1 R.one'

theorem Root.ne (R : Root n g qs) (q : Nat) (hq : q ∈ qs) : g ^ ((n - 1) / q) % n ≠ 1 := by
  have := R.big; have := R.small; have := Nat.div_le_self (n - 1) q
  rw [← pw_eq n 62 _ _ (by omega)]; exact bne_iff_ne.1 (R.ne' q hq)

theorem one_mod (h : 2 < n) : 1 % n = 1 := Nat.mod_eq_of_lt (by omega)

theorem pow_one_mul {a b : Nat} (hn : 2 < n) (h : g ^ a % n = 1) : g ^ (a * b) % n = 1 := by
  rw [Nat.pow_mul, Nat.pow_mod, h, Nat.one_pow, one_mod hn]

theorem pow_add_one {a b : Nat} (h : g ^ a % n = 1) : g ^ (a + b) % n = g ^ b % n := by
  rw [Nat.pow_add, Nat.mul_mod, h, Nat.one_mul, Nat.mod_mod]

theorem pow_mod_exp {a b : Nat} (hn : 2 < n) (h : g ^ b % n = 1) : g ^ (a % b) % n = g ^ a % n := by
  conv => rhs; rw [← Nat.div_add_mod a b]
  rw [pow_add_one (pow_one_mul hn h)]

theorem pow_gcd (hn : 2 < n) : ∀ (a b : Nat), g ^ a % n = 1 → g ^ b % n = 1 → g ^ (Nat.gcd a b) % n = 1 := by
  intro a b
  induction a, b using Nat.gcd.induction with
  | H0 b => intro _ hb; rw [Nat.gcd_zero_left]; exact hb
  | H1 a b ha ih =>
    intro h1 h2
    rw [Nat.gcd_rec]
    exact ih (by rw [pow_mod_exp hn h1]; exact h2) h1

theorem Root.order (R : Root n g qs) {m : Nat} (h0 : 0 < m) (h1 : m < n - 1) : g ^ m % n ≠ 1 := by
  intro h
  have hd := pow_gcd R.big m (n - 1) h R.one
  have d1 := Nat.gcd_dvd_right m (n - 1)
  have d2 := Nat.le_of_dvd h0 (Nat.gcd_dvd_left m (n - 1))
  generalize Nat.gcd m (n - 1) = d at hd d1 d2
  obtain ⟨c, hc⟩ := d1
  by_cases hq : ∃ q ∈ qs, q ∣ c
  · obtain ⟨q, hq, e, he⟩ := hq
    apply R.ne q hq
    subst he
    have q0 : 0 < q := by
      by_cases z : q = 0
      · subst z; simp at hc; have := R.big; omega
      · omega
    have : (n - 1) / q = d * e := by
      rw [hc, show d * (q * e) = q * (d * e) by rw [Nat.mul_left_comm], Nat.mul_div_cancel_left _ q0]
    rw [this]
    exact pow_one_mul R.big hd
  · have hcop := coprime_prod (c := c) R.pr (fun q h1 h2 => hq ⟨q, h1, h2⟩)
    rw [R.prod] at hcop
    have : c = 1 := Nat.Coprime.eq_one_of_dvd hcop ⟨d, by rw [hc, Nat.mul_comm]⟩
    subst this
    omega

theorem Root.nonzero (R : Root n g qs) {i : Nat} (h : i < n - 1) : g ^ i % n ≠ 0 := by
  intro e
  have := R.one
  rw [show n - 1 = i + (n - 1 - i) by omega, Nat.pow_add, Nat.mul_mod, e] at this
  simp at this

theorem Root.inj (R : Root n g qs) {i j : Nat} (hij : i < j) (hj : j < n - 1) : g ^ i % n ≠ g ^ j % n := by
  intro e
  apply R.order (m := j - i) (by omega) (by omega)
  have h1 : g ^ (i + (n - 1 - i)) % n = 1 := by rw [show i + (n - 1 - i) = n - 1 by omega]; exact R.one
  have h2 : g ^ (j + (n - 1 - i)) % n = 1 := by rw [Nat.pow_add, Nat.mul_mod, ← e, ← Nat.mul_mod, ← Nat.pow_add]; exact h1
  rw [show j + (n - 1 - i) = (n - 1) + (j - i) by omega, pow_add_one R.one] at h2
  exact h2

/-- every number but 0 is a power of the root -/
theorem Root.log (R : Root n g qs) {a : Nat} (h0 : 0 < a) (h1 : a < n) : ∃ i, i < n - 1 ∧ g ^ i % n = a := by
  have hb := R.big
  obtain ⟨i, hi, e⟩ := onto (m := n - 1) (f := fun i => g ^ i % n - 1) (by
      intro i hi
      have := R.nonzero hi
      have := Nat.mod_lt (g ^ i) (show 0 < n by omega)
      omega) (by
      intro i j hij hj e
      have a := R.nonzero hj
      have b := R.nonzero (show i < n - 1 by omega)
      exact R.inj hij hj (by omega)) (v := a - 1) (by omega)
  have := R.nonzero hi
  exact ⟨i, hi, by omega⟩

theorem Root.fermat (R : Root n g qs) {a : Nat} (h0 : 0 < a) (h1 : a < n) : a ^ (n - 1) % n = 1 := by
  obtain ⟨i, _, rfl⟩ := R.log h0 h1
  rw [← Nat.pow_mod, ← Nat.pow_mul, Nat.mul_comm]
  exact pow_one_mul R.big R.one

end
theorem pr2 : Pr 2 := pr_of 2 0 (by omega) (by omega) rfl
theorem pr3 : Pr 3 := pr_of 3 0 (by omega) (by omega) rfl
theorem pr5 : Pr 5 := pr_of 5 1 (by omega) (by omega) rfl
theorem pr7 : Pr 7 := pr_of 7 1 (by omega) (by omega) rfl
theorem pr11 : Pr 11 := pr_of 11 2 (by omega) (by omega) rfl
theorem pr13 : Pr 13 := pr_of 13 2 (by omega) (by omega) rfl
theorem pr31 : Pr 31 := pr_of 31 4 (by omega) (by omega) rfl
theorem pr41 : Pr 41 := pr_of 41 5 (by omega) (by omega) rfl
theorem pr61 : Pr 61 := pr_of 61 6 (by omega) (by omega) rfl
theorem pr151 : Pr 151 := pr_of 151 11 (by omega) (by omega) rfl
theorem pr331 : Pr 331 := pr_of 331 17 (by omega) (by omega) (by decide +kernel)
theorem pr1321 : Pr 1321 := pr_of 1321 35 (by omega) (by omega) (by decide +kernel)
theorem rootP : Root 2305843009213693951 37 [2, 3, 3, 5, 5, 7, 11, 13, 31, 41, 61, 151, 331, 1321] where
  big := by omega
  prod := by decide +kernel
  pr := by
    simp only [List.forall_mem_cons]
    exact ⟨pr2, pr3, pr3, pr5, pr5, pr7, pr11, pr13, pr31, pr41, pr61, pr151, pr331, pr1321, by simp⟩
  small := by decide +kernel
  one' := by decide +kernel
  ne' := by
    simp only [List.forall_mem_cons]
    refine ⟨?_, ?_, ?_, ?_, ?_, ?_, ?_, ?_, ?_, ?_, ?_, ?_, ?_, ?_, by simp⟩ <;> decide +kernel

end NT
end
section
abbrev Fp := Fin 2305843009213693951
namespace Fp
theorem pow_succ (a : Fp) (e : Nat) : a ^ (e + 1) = a ^ e * a := by grobner
theorem pow_zero' (a : Fp) : a ^ 0 = 1 := by grobner

theorem pow_val (a : Fp) : ∀ (e : Nat), (a ^ e : Fp).val = a.val ^ e % 2305843009213693951
  | 0 => by rw [pow_zero', Nat.pow_zero]; rfl
  | e + 1 => by rw [pow_succ, Fin.val_mul, pow_val a e, Nat.mod_mul_mod, Nat.pow_succ]

theorem pos {a : Fp} (h : a ≠ 0) : 0 < a.val := by
  rcases Nat.eq_zero_or_pos a.val with e | e
  · exact absurd (Fin.ext e) h
  · exact e

theorem fermat {a : Fp} (h : a ≠ 0) (e : Nat) (he : e = 2305843009213693950) : a ^ e = 1 := by
  apply Fin.ext
  have h1 := NT.rootP.fermat (pos h) a.isLt
  rw [show 2305843009213693951 - 1 = e by omega] at h1
  rw [pow_val, h1]; rfl

/-- the inverse: a power -/
def inv (a : Fp) : Fp := Fin.ofNat _ (NT.pw 2305843009213693951 62 a.val 2305843009213693949)

theorem inv_eq (a : Fp) (e : Nat) (he : e = 2305843009213693949) : inv a = a ^ e := by
  apply Fin.ext
  rw [pow_val, inv, ← he, NT.pw_eq _ _ _ _ (by omega)]
  exact Nat.mod_mod _ _

theorem mul_inv {a : Fp} (h : a ≠ 0) : a * inv a = 1 := by
  obtain ⟨e, he⟩ : ∃ e, e = 2305843009213693949 := ⟨_, rfl⟩
  rw [inv_eq a e he]
  have := fermat h (e + 1) (by omega)
  rw [pow_succ] at this
  grobner

theorem mul_zero_or {x y : Fp} (h : x * y = 0) : x = 0 ∨ y = 0 := by
  by_cases hx : x = 0
  · exact .inl hx
  · have := mul_inv hx
    exact .inr (by grobner)

theorem cancel {d x y : Fp} (hd : d ≠ 0) (h : d * x = d * y) : x = y := by
  have := mul_inv hd
  grobner

theorem div_mul {d x : Fp} (hd : d ≠ 0) : x * inv d * d = x := by
  have := mul_inv hd
  grobner

end Fp
end
section
namespace EC
open Fp (mul_zero_or cancel div_mul inv)
inductive Pt where
  | zero
  | aff (x y : Fp)
  deriving DecidableEq

def On (a b : Fp) : Pt → Prop
  | .zero => True
  | .aff x y => y*y = x*x*x + a*x + b

def neg : Pt → Pt
  | .zero => .zero
  | .aff x y => .aff x (-y)

/-- the sum by a slope -/
def by' (l x1 y1 x2 : Fp) : Pt := .aff (l*l - x1 - x2) (l*(x1 - (l*l - x1 - x2)) - y1)

def add (a : Fp) : Pt → Pt → Pt
  | .zero, q => q
  | p, .zero => p
  | .aff x1 y1, .aff x2 y2 =>
    if x1 = x2 then
      if y1 + y2 = 0 then .zero else by' ((3*(x1*x1)+a)*inv (y1+y1)) x1 y1 x2
    else by' ((y2-y1)*inv (x2-x1)) x1 y1 x2

/-- l is a slope of the two points (a tangent's, if they are one) -/
structure Sl (a x1 y1 x2 y2 l : Fp) : Prop where
  d : y2 - y1 = l*(x2-x1)
  s : l*(y1+y2) = x1*x1+x1*x2+x2*x2+a

section
theorem add_zero_left (a : Fp) (q : Pt) : add a .zero q = q := by cases q <;> rfl
theorem add_zero_right (a : Fp) (q : Pt) : add a q .zero = q := by cases q <;> rfl

theorem add_opp {a x y z : Fp} (h : y + z = 0) : add a (.aff x y) (.aff x z) = .zero := by simp [add, h]
end
/-- two points with one x are the same or opposite -/
theorem same_or_opp {a b x y1 y2 : Fp} (h1 : y1*y1 = x*x*x+a*x+b) (h2 : y2*y2 = x*x*x+a*x+b) : y2 = y1 ∨ y1 + y2 = 0 := by
  have : (y2 - y1)*(y1+y2) = 0 := by grobner
  rcases mul_zero_or this with h | h
  · exact .inl (by grobner)
  · exact .inr h

/-- no slope is wanting: the sum of points that are not opposite -/
theorem add_sl {a b x1 y1 x2 y2 : Fp} (h1 : y1*y1 = x1*x1*x1+a*x1+b) (h2 : y2*y2 = x2*x2*x2+a*x2+b)
    (ho : ¬ (x1 = x2 ∧ y1 + y2 = 0)) : ∃ l, Sl a x1 y1 x2 y2 l ∧ add a (.aff x1 y1) (.aff x2 y2) = by' l x1 y1 x2 := by
  by_cases hx : x1 = x2
  · subst hx
    have hs : ¬ (y1 + y2 = 0) := fun h => ho ⟨rfl, h⟩
    have hy : y2 = y1 := by
      rcases same_or_opp h1 h2 with h | h
      · exact h
      · exact absurd h hs
    subst hy
    have e : add a (.aff x1 y2) (.aff x1 y2) = by' ((3*(x1*x1)+a)*inv (y2+y2)) x1 y2 x1 := by simp [add, hs]
    have hd := div_mul (x := 3*(x1*x1)+a) hs
    refine ⟨_, ⟨?_, ?_⟩, e⟩
    · clear hd e hs ho; grobner
    · rw [hd]; clear hd e hs ho; grobner
  · have e : add a (.aff x1 y1) (.aff x2 y2) = by' ((y2-y1)*inv (x2-x1)) x1 y1 x2 := by simp [add, hx]
    have hn : x2 - x1 ≠ 0 := fun h => hx (by clear ho hx; grobner)
    have hd := div_mul (x := y2-y1) hn
    refine ⟨_, ⟨hd.symm, ?_⟩, e⟩
    clear e
    generalize (y2-y1)*inv (x2-x1) = l at hd ⊢
    apply cancel hn
    clear ho hx hn; grobner

/-- there is one slope -/
theorem sl_unique {a x1 y1 x2 y2 l k : Fp} (ho : ¬ (x1 = x2 ∧ y1 + y2 = 0)) (hl : Sl a x1 y1 x2 y2 l) (hk : Sl a x1 y1 x2 y2 k) : k = l := by
  obtain ⟨d1, s1⟩ := hl
  obtain ⟨d2, s2⟩ := hk
  by_cases hx : x1 = x2
  · have hs : y1 + y2 ≠ 0 := fun h => ho ⟨hx, h⟩
    apply cancel hs
    clear ho hs; grobner
  · have hn : x2 - x1 ≠ 0 := fun h => hx (by clear ho hx; grobner)
    apply cancel hn
    clear ho hx hn; grobner

/-- a slope is the slope -/
theorem add_of_sl {a b x1 y1 x2 y2 l : Fp} (h1 : y1*y1 = x1*x1*x1+a*x1+b) (h2 : y2*y2 = x2*x2*x2+a*x2+b)
    (ho : ¬ (x1 = x2 ∧ y1 + y2 = 0)) (hl : Sl a x1 y1 x2 y2 l) : add a (.aff x1 y1) (.aff x2 y2) = by' l x1 y1 x2 := by
  obtain ⟨k, hk, e⟩ := add_sl (a := a) h1 h2 ho
  rw [e, sl_unique ho hl hk]

theorem on_by {a b x1 y1 x2 y2 l : Fp} (h1 : y1*y1 = x1*x1*x1+a*x1+b) (hl : Sl a x1 y1 x2 y2 l) : On a b (by' l x1 y1 x2) := by
  obtain ⟨d1, s1⟩ := hl
  simp only [On, by']
  grobner

theorem neg_neg (p : Pt) : neg (neg p) = p := by
  cases p with
  | zero => rfl
  | aff x y => simp only [neg]; congr 1; grobner

theorem on_neg {a b : Fp} {p : Pt} (h : On a b p) : On a b (neg p) := by
  cases p with
  | zero => trivial
  | aff x y => simp only [On, neg] at *; grobner

section
theorem on_add {a b : Fp} {p q : Pt} (hp : On a b p) (hq : On a b q) : On a b (add a p q) := by
  cases p with
  | zero => rw [add_zero_left]; exact hq
  | aff x1 y1 =>
    cases q with
    | zero => rw [add_zero_right]; exact hp
    | aff x2 y2 =>
      by_cases ho : x1 = x2 ∧ y1 + y2 = 0
      · obtain ⟨rfl, h⟩ := ho
        rw [add_opp h]; trivial
      · obtain ⟨l, hl, e⟩ := add_sl (a := a) hp hq ho
        rw [e]; exact on_by hp hl

theorem add_comm {a b : Fp} {p q : Pt} (hp : On a b p) (hq : On a b q) : add a p q = add a q p := by
  cases p with
  | zero => rw [add_zero_left, add_zero_right]
  | aff x1 y1 =>
    cases q with
    | zero => rw [add_zero_left, add_zero_right]
    | aff x2 y2 =>
      by_cases ho : x1 = x2 ∧ y1 + y2 = 0
      · obtain ⟨rfl, h⟩ := ho
        rw [add_opp h, add_opp (by grobner)]
      · obtain ⟨l, hl, e⟩ := add_sl (a := a) hp hq ho
        have ho' : ¬ (x2 = x1 ∧ y2 + y1 = 0) := fun h => ho ⟨h.1.symm, by grobner⟩
        have hl' : Sl a x2 y2 x1 y1 l := by
          obtain ⟨d, s⟩ := hl
          exact ⟨by clear ho ho'; grobner, by clear ho ho'; grobner⟩
        rw [e, add_of_sl hq hp ho' hl']
        obtain ⟨d, s⟩ := hl
        simp only [by']
        congr 1
        · grobner
        · clear ho ho' e hl'; grobner

theorem add_neg {a : Fp} (p : Pt) : add a p (neg p) = .zero := by
  cases p with
  | zero => rfl
  | aff x y => exact add_opp (by grobner)

theorem neg_add {a b : Fp} {p q : Pt} (hp : On a b p) (hq : On a b q) : neg (add a p q) = add a (neg p) (neg q) := by
  cases p with
  | zero => rw [add_zero_left, show neg (.zero : Pt) = .zero from rfl, add_zero_left]
  | aff x1 y1 =>
    cases q with
    | zero => rw [add_zero_right, show neg (.zero : Pt) = .zero from rfl, add_zero_right]
    | aff x2 y2 =>
      by_cases ho : x1 = x2 ∧ y1 + y2 = 0
      · obtain ⟨rfl, h⟩ := ho
        rw [add_opp h]; simp only [neg]
        rw [add_opp (by grobner)]
      · obtain ⟨l, hl, e⟩ := add_sl (a := a) hp hq ho
        have ho' : ¬ (x1 = x2 ∧ -y1 + -y2 = 0) := fun h => ho ⟨h.1, by have := h.2; grobner⟩
        have hl' : Sl a x1 (-y1) x2 (-y2) (-l) := by
          obtain ⟨d, s⟩ := hl
          exact ⟨by clear ho ho'; grobner, by clear ho ho'; grobner⟩
        have h1 := on_neg hp
        have h2 := on_neg hq
        rw [e]; simp only [neg] at *
        rw [add_of_sl h1 h2 ho' hl']
        simp only [by']
        congr 1
        · grobner
        · grobner

end
/-- what the lines of three points have to do with each other -/
theorem three {a x1 y1 x2 y2 x3 y3 l m : Fp} (hl : Sl a x1 y1 x2 y2 l) (hm : Sl a x2 y2 x3 y3 m) :
    2*(m-l)*y2 = (x1-x2)*(l*l-(x1+x2+x3)) - (x3-x2)*(m*m-(x1+x2+x3)) := by
  obtain ⟨d1, s1⟩ := hl
  obtain ⟨d2, s2⟩ := hm
  grobner

/-- the slope of A + B and C, where the two lines differ -/
theorem slope3 {a b x1 y1 x2 y2 x3 y3 l m i : Fp} (h1 : y1*y1 = x1*x1*x1+a*x1+b) (h3 : y3*y3 = x3*x3*x3+a*x3+b)
    (hl : Sl a x1 y1 x2 y2 l) (hm : Sl a x2 y2 x3 y3 m) (hi : (m-l)*i = 1) (hne : m - l ≠ 0) (two : (2:Fp) ≠ 0) :
    Sl a (l*l-x1-x2) (l*(x1-(l*l-x1-x2))-y1) x3 y3 (-(l+(x1-x3)*i)) := by
  have R := three hl hm
  have hd : y3 - (l*(x1-(l*l-x1-x2))-y1) = -(l+(x1-x3)*i)*(x3-(l*l-x1-x2)) := by
    obtain ⟨d1, s1⟩ := hl
    obtain ⟨d2, s2⟩ := hm
    apply cancel hne
    clear hne two h1 h3 s1 s2
    obtain rfl : y1 = y2 - l*(x2-x1) := by clear R d2 hi; grobner
    obtain rfl : y3 = y2 + m*(x3-x2) := by clear R d1 hi; grobner
    clear d1 d2
    grobner
  refine ⟨hd, ?_⟩
  by_cases hx : x3 - (l*l-x1-x2) = 0
  · -- the same point: a tangent
    obtain ⟨d1, s1⟩ := hl
    obtain ⟨d2, s2⟩ := hm
    have e2 : 2*y2 = -(x3-x2)*(m+l) := by
      apply cancel hne
      clear hne two h1 h3 hd s1 s2 d1 d2 hi
      grobner
    apply cancel two
    apply cancel hne
    clear hne two h1 h3 s1 R hd
    obtain rfl : x1 = l*l - x2 - x3 := by clear d1 d2 s2 e2 hi; grobner
    obtain rfl : y1 = y2 - l*(x2-(l*l - x2 - x3)) := by clear d2 s2 e2 hi hx; grobner
    obtain rfl : y3 = y2 + m*(x3-x2) := by clear d1 s2 e2 hi hx; grobner
    obtain rfl : a = m*(y2+(y2 + m*(x3-x2))) - x2*x2 - x2*x3 - x3*x3 := by clear d1 d2 e2 hi hx; grobner
    clear d1 d2 s2 hx
    grobner
  · have on1 : On a b (by' l x1 y1 x2) := on_by h1 hl
    simp only [On, by'] at on1
    apply cancel hx
    generalize (l*(x1-(l*l-x1-x2))-y1) = Y at *
    generalize (l*l-x1-x2) = X at *
    generalize (-(l+(x1-x3)*i)) = n at *
    clear hx hne two R hl hm hi
    grobner

/-- no point is singular -/
def Sm (a b : Fp) : Prop := 4*(a*a*a)+27*(b*b) ≠ 0

section
/-- (-B) + (B + C) = C -/
theorem neg_add_cancel {a b : Fp} (two : (2:Fp) ≠ 0) (sm : Sm a b) {p q : Pt} (hp : On a b p) (hq : On a b q) : add a (neg p) (add a p q) = q := by
  cases p with
  | zero => rw [add_zero_left, show neg (.zero : Pt) = .zero from rfl, add_zero_left]
  | aff x2 y2 =>
    cases q with
    | zero => rw [add_zero_right, add_comm (on_neg hp) hp, add_neg]
    | aff x3 y3 =>
      by_cases ho : x2 = x3 ∧ y2 + y3 = 0
      · obtain ⟨rfl, h⟩ := ho
        rw [add_opp h, add_zero_right]; simp only [neg]
        congr 1; grobner
      · obtain ⟨m, hm, e⟩ := add_sl (a := a) hp hq ho
        have one := on_by hp hm
        have hn := on_neg hp
        rw [e]
        simp only [On, neg, by'] at *
        obtain ⟨d2, s2⟩ := hm
        have hs : Sl a x2 (-y2) (m*m-x2-x3) (m*(x2-(m*m-x2-x3))-y2) (-m) := by
          refine ⟨by clear ho two sm hp hq one e; grobner, ?_⟩
          by_cases hx : (m*m-x2-x3) - x2 = 0
          · clear ho two sm e one
            grobner
          · apply cancel hx
            clear hx ho two sm e
            grobner
        have ho' : ¬ (x2 = m*m-x2-x3 ∧ -y2 + (m*(x2-(m*m-x2-x3))-y2) = 0) := by
          rintro ⟨hx, hy⟩
          have y0 : y2 = 0 := by apply cancel two; clear ho two sm hn hq e one hs; grobner
          subst y0
          have t : 3*(x2*x2) + a = 0 := by clear ho two sm hn hq e one hs; grobner
          apply sm
          clear ho two sm hn hq e one hs
          grobner
        rw [add_of_sl hn one ho' hs]
        simp only [by']
        congr 1
        · grobner
        · clear ho ho' e two sm; grobner

theorem add_cancel {a b : Fp} (two : (2:Fp) ≠ 0) (sm : Sm a b) {p q : Pt} (hp : On a b p) (hq : On a b q) : add a (add a p q) (neg q) = p := by
  rw [add_comm (on_add hp hq) (on_neg hq), add_comm hp hq, neg_add_cancel two sm hq hp]

theorem eq_neg_of_add {a b : Fp} (two : (2:Fp) ≠ 0) (sm : Sm a b) {p q : Pt} (hp : On a b p) (hq : On a b q) (h : add a p q = .zero) : q = neg p := by
  have := neg_add_cancel two sm hp hq
  rw [h, add_zero_right] at this
  exact this.symm

theorem opp_of {a x1 y1 x2 y2 : Fp} (h : add a (.aff x1 y1) (.aff x2 y2) ≠ .zero) : ¬ (x1 = x2 ∧ y1 + y2 = 0) := by
  rintro ⟨rfl, hy⟩
  exact h (add_opp hy)

theorem assoc {a b : Fp} (two : (2:Fp) ≠ 0) (sm : Sm a b) {p q r : Pt} (hp : On a b p) (hq : On a b q) (hr : On a b r) :
    add a (add a p q) r = add a p (add a q r) := by
  by_cases z1 : add a p q = .zero
  · have := eq_neg_of_add two sm hp hq z1
    subst this
    rw [z1, add_zero_left]
    have := neg_add_cancel two sm (on_neg hp) hr
    rw [neg_neg] at this
    exact this.symm
  by_cases z2 : add a q r = .zero
  · have := eq_neg_of_add two sm hq hr z2
    subst this
    rw [z2, add_zero_right]
    exact add_cancel two sm hp hq
  by_cases z3 : add a (add a p q) r = .zero
  · have := eq_neg_of_add two sm (on_add hp hq) hr z3
    subst this
    rw [z3, neg_add hp hq, add_comm (on_neg hp) (on_neg hq), ← neg_neg q, neg_neg (neg q)]
    have h := neg_add_cancel two sm (on_neg hq) (on_neg hp)
    rw [neg_neg] at h
    rw [neg_neg, h, add_neg]
  by_cases z4 : add a p (add a q r) = .zero
  · have h := eq_neg_of_add two sm hp (on_add hq hr) z4
    exfalso
    apply z3
    have : p = neg (add a q r) := by rw [h, neg_neg]
    subst this
    rw [neg_add hq hr, add_comm (on_neg hq) (on_neg hr)]
    have h := add_cancel two sm (on_neg hr) (on_neg hq)
    rw [neg_neg] at h
    rw [h, add_comm (on_neg hr) hr, add_neg]
  cases p with
  | zero => rw [add_zero_left, add_zero_left]
  | aff x1 y1 =>
  cases q with
  | zero => rw [add_zero_left, add_zero_right]
  | aff x2 y2 =>
  cases r with
  | zero => rw [add_zero_right, add_zero_right]
  | aff x3 y3 =>
  obtain ⟨l, hl, el⟩ := add_sl (a := a) hp hq (opp_of z1)
  obtain ⟨m, hm, em⟩ := add_sl (a := a) hq hr (opp_of z2)
  have onD := on_by hp hl
  have onE := on_by hq hm
  rw [el] at z3 ⊢
  rw [em] at z4 ⊢
  by_cases hd : m - l = 0
  · -- one line
    have hml : m = l := by grobner
    subst hml
    have R := three hl hm
    have R' : (x1 - x3)*(m*m-(x1+x2+x3)) = 0 := by clear z1 z2 z3 z4; grobner
    rcases mul_zero_or R' with h | h
    · -- A = C
      have hx : x1 = x3 := by grobner
      subst hx
      have hy : y1 = y3 := by obtain ⟨d1, s1⟩ := hl; obtain ⟨d2, s2⟩ := hm; clear z1 z2 z3 z4; grobner
      subst hy
      rw [← el, ← em, add_comm (on_add hp hq) hp, add_comm hp hq]
    · exfalso
      have := opp_of z3
      apply this
      obtain ⟨d1, s1⟩ := hl; obtain ⟨d2, s2⟩ := hm
      clear z1 z2 z3 z4 this
      constructor
      · grobner
      · grobner
  · obtain ⟨i, hi⟩ : ∃ i, (m-l)*i = 1 := ⟨inv (m-l), Fp.mul_inv hd⟩
    have s1 := slope3 hp hr hl hm hi hd two
    have hl' : Sl a x2 y2 x1 y1 l := by
      obtain ⟨d, s⟩ := hl
      exact ⟨by clear z1 z2 z3 z4 hd; grobner, by clear z1 z2 z3 z4 hd; grobner⟩
    have hm' : Sl a x3 y3 x2 y2 m := by
      obtain ⟨d, s⟩ := hm
      exact ⟨by clear z1 z2 z3 z4 hd; grobner, by clear z1 z2 z3 z4 hd; grobner⟩
    have hd' : l - m ≠ 0 := fun h => hd (by grobner)
    have s2 := slope3 hr hp hm' hl' (i := -i) (by clear z1 z2 z3 z4 hd hd'; grobner) hd' two
    have eE : by' m x3 y3 x2 = by' m x2 y2 x3 := by
      obtain ⟨d, s⟩ := hm
      simp only [by']
      congr 1
      · grobner
      · clear z1 z2 z3 z4; grobner
    rw [← eE] at z4 onE ⊢
    rw [add_comm hp onE] at z4 ⊢
    have g1 := add_of_sl onD hr (opp_of z3) s1
    have g2 := add_of_sl onE hp (opp_of z4) s2
    rw [show by' l x1 y1 x2 = .aff _ _ from rfl, show by' m x3 y3 x2 = .aff _ _ from rfl, g1, g2]
    clear z1 z2 z3 z4 hd hd' s1 s2 onD onE
    obtain ⟨d1, t1⟩ := hl; obtain ⟨d2, t2⟩ := hm
    simp only [by']
    have ex : -(l + (x1 - x3) * i) * -(l + (x1 - x3) * i) - (l * l - x1 - x2) - x3 = -(m + (x3 - x1) * -i) * -(m + (x3 - x1) * -i) - (m * m - x3 - x2) - x1 := by grobner
    congr 1
    rw [ex]
    grobner
end
end EC
end
section
namespace Jac
open EC Fp
/-- the coordinates stand for the point -/
def Rep (X Y Z : Fp) : Pt → Prop
  | .zero => Z = 0
  | .aff x y => Z ≠ 0 ∧ X = x*(Z*Z) ∧ Y = y*(Z*Z*Z)

theorem mul_ne {x y : Fp} (hx : x ≠ 0) (hy : y ≠ 0) : x * y ≠ 0 := fun h => (mul_zero_or h).elim hx hy

theorem two_ne : (2 : Fp) ≠ 0 := by decide

/-- the double of what is not zero and has no y = 0 -/
theorem rep_double {b X Y Z x y : Fp} (hp : On (-3) b (.aff x y)) (h : Rep X Y Z (.aff x y)) (hY : Y ≠ 0) {yy zz v m x3 : Fp}
    (eyy : yy = Y*Y) (ezz : zz = Z*Z) (ev : v = 4*X*yy) (em : m = 3*(X*X - zz*zz)) (ex : x3 = m*m - v - v) :
    Rep x3 (m*(v-x3) - 8*yy*yy) (Y*Z + Y*Z) (add (-3) (.aff x y) (.aff x y)) := by
  obtain ⟨hz, rfl, rfl⟩ := h
  have hy : y ≠ 0 := by rintro rfl; apply hY; clear hY; grobner
  have ho : ¬ (x = x ∧ y + y = 0) := by
    rintro ⟨_, h⟩
    have : (2:Fp) * y = 0 := by clear hp hz hY hy; grobner
    rcases mul_zero_or this with h | h
    · exact two_ne h
    · exact hy h
  have hZ3 : y*(Z*Z*Z)*Z + y*(Z*Z*Z)*Z ≠ 0 := by
    have := mul_ne two_ne (mul_ne hy (mul_ne (mul_ne hz hz) (mul_ne hz hz)))
    intro h; apply this; clear this ho hy hz hp hY; grobner
  obtain ⟨l, hl, e⟩ := add_sl (a := -3) hp hp ho
  obtain ⟨_, s⟩ := hl
  rw [e]
  simp only [by', Rep]
  refine ⟨hZ3, ?_⟩
  have em' : m = l*(y*(Z*Z*Z)*Z + y*(Z*Z*Z)*Z) := by
    subst eyy ezz em
    clear hp hY hy ho hZ3 e ev ex hz
    grobner
  clear em hp hY hy ho hZ3 e hz s
  subst em' eyy ezz ev ex
  constructor <;> grobner

/-- the sum of two that have unlike x -/
theorem rep_plus {b X1 Y1 Z1 X2 Y2 Z2 x1 y1 x2 y2 : Fp} (hp : On (-3) b (.aff x1 y1)) (hq : On (-3) b (.aff x2 y2)) (h1 : Rep X1 Y1 Z1 (.aff x1 y1)) (h2 : Rep X2 Y2 Z2 (.aff x2 y2))
    {u1 u2 s1 s2 h r v x3 : Fp} (eu1 : u1 = X1*(Z2*Z2)) (eu2 : u2 = X2*(Z1*Z1)) (es1 : s1 = Y1*(Z2*Z2)*Z2) (es2 : s2 = Y2*(Z1*Z1)*Z1)
    (eh : h = u2 - u1) (er : r = s2 - s1) (ev : v = u1*(h*h)) (ex : x3 = r*r - h*h*h - v - v) (hh : h ≠ 0) :
    Rep x3 (r*(v-x3) - s1*(h*h*h)) (h*Z1*Z2) (add (-3) (.aff x1 y1) (.aff x2 y2)) := by
  obtain ⟨hz1, rfl, rfl⟩ := h1
  obtain ⟨hz2, rfl, rfl⟩ := h2
  have eh' : h = (x2-x1)*(Z1*Z1*(Z2*Z2)) := by subst eu1 eu2 eh; clear hz1 hz2 hh ev er es1 es2 ex; grobner
  have er' : r = (y2-y1)*(Z1*Z1*Z1*(Z2*Z2*Z2)) := by subst es1 es2 er; clear hz1 hz2 hh ev eu1 eu2 ex eh eh'; grobner
  have hne : x2 - x1 ≠ 0 := by
    intro e; apply hh; rw [eh', e]; grobner
  have ho : ¬ (x1 = x2 ∧ y1 + y2 = 0) := by
    rintro ⟨e, _⟩; apply hne; rw [e]; grobner
  obtain ⟨l, hl, e⟩ := add_sl (a := -3) hp hq ho
  obtain ⟨d, _⟩ := hl
  rw [e]
  simp only [by', Rep]
  refine ⟨mul_ne (mul_ne hh hz1) hz2, ?_⟩
  rw [d] at er'
  clear hp hq ho hne hh hz1 hz2 e d eh er es2 eu2
  subst eh' er' eu1 es1 ev ex
  constructor <;> grobner

/-- the sum of two that have one x: the double, or zero -/
theorem same_x {X1 Y1 Z1 X2 Y2 Z2 x1 y1 x2 y2 : Fp} (h1 : Rep X1 Y1 Z1 (.aff x1 y1)) (h2 : Rep X2 Y2 Z2 (.aff x2 y2))
    (hx : X2*(Z1*Z1) - X1*(Z2*Z2) = 0) : x1 = x2 := by
  obtain ⟨hz1, rfl, rfl⟩ := h1
  obtain ⟨hz2, rfl, rfl⟩ := h2
  apply cancel (mul_ne (mul_ne hz1 hz1) (mul_ne hz2 hz2))
  clear hz1 hz2; grobner

theorem same_y {X1 Y1 Z1 X2 Y2 Z2 x1 y1 x2 y2 : Fp} (h1 : Rep X1 Y1 Z1 (.aff x1 y1)) (h2 : Rep X2 Y2 Z2 (.aff x2 y2)) :
    Y2*(Z1*Z1)*Z1 - Y1*(Z2*Z2)*Z2 = 0 ↔ y1 = y2 := by
  obtain ⟨hz1, rfl, rfl⟩ := h1
  obtain ⟨hz2, rfl, rfl⟩ := h2
  constructor
  · intro hy
    apply cancel (mul_ne (mul_ne (mul_ne hz1 hz1) hz1) (mul_ne (mul_ne hz2 hz2) hz2))
    clear hz1 hz2; grobner
  · rintro rfl; clear hz1 hz2; grobner

/-- back to two coordinates -/
theorem rep_back {X Y Z x y : Fp} (h : Rep X Y Z (.aff x y)) : X*(inv Z * inv Z) = x ∧ Y*(inv Z * inv Z)*inv Z = y := by
  obtain ⟨hz, rfl, rfl⟩ := h
  have := mul_inv hz
  generalize inv Z = i at *
  clear hz
  constructor <;> grobner

end Jac
end
section
namespace Grp
open EC Fp
/-- a point of the curve -/
abbrev Cv (p : Pt) : Prop := On (-3) 111 p
/-- the sum -/
abbrev pl (p q : Pt) : Pt := add (-3) p q

theorem sm : Sm (-3) 111 := by unfold Sm; decide +kernel

theorem pl_assoc {p q r : Pt} (hp : Cv p) (hq : Cv q) (hr : Cv r) : pl (pl p q) r = pl p (pl q r) := assoc Jac.two_ne sm hp hq hr
theorem cv_pl {p q : Pt} (hp : Cv p) (hq : Cv q) : Cv (pl p q) := on_add hp hq
theorem cv_neg {p : Pt} (hp : Cv p) : Cv (neg p) := on_neg hp

/-- n times p -/
def sm' : Nat → Pt → Pt
  | 0, _ => .zero
  | n + 1, p => pl (sm' n p) p

theorem cv_sm {p : Pt} (hp : Cv p) : ∀ n, Cv (sm' n p)
  | 0 => trivial
  | n + 1 => cv_pl (cv_sm hp n) hp

theorem sm_one (p : Pt) : sm' 1 p = p := add_zero_left (-3) p

theorem sm_add {p : Pt} (hp : Cv p) (j : Nat) : ∀ k, sm' (j + k) p = pl (sm' j p) (sm' k p)
  | 0 => (add_zero_right _ _).symm
  | k + 1 => by
    show pl (sm' (j + k) p) p = pl (sm' j p) (pl (sm' k p) p)
    rw [sm_add hp j k, pl_assoc (cv_sm hp j) (cv_sm hp k) hp]

theorem sm_mul {p : Pt} (hp : Cv p) (j : Nat) : ∀ k, sm' k (sm' j p) = sm' (j * k) p
  | 0 => rfl
  | k + 1 => by
    show pl (sm' k (sm' j p)) (sm' j p) = _
    rw [sm_mul hp j k, Nat.mul_succ, sm_add hp]

theorem sm_zero : ∀ k, sm' k .zero = .zero
  | 0 => rfl
  | k + 1 => by show pl (sm' k .zero) .zero = .zero; rw [sm_zero k]; rfl

theorem sm_neg {p : Pt} (hp : Cv p) : ∀ k, sm' k (neg p) = neg (sm' k p)
  | 0 => rfl
  | k + 1 => by
    show pl (sm' k (neg p)) (neg p) = neg (pl (sm' k p) p)
    rw [sm_neg hp k, pl, neg_add (cv_sm hp k) hp]

/-- by bits: the highest first -/
theorem sm_bit {p : Pt} (hp : Cv p) (k : Nat) : sm' (2 * k) p = pl (sm' k p) (sm' k p) := by rw [Nat.two_mul, sm_add hp]

/-- k times p where k has at most n bits -/
def bm : Nat → Nat → Pt → Pt
  | 0, _, _ => .zero
  | n + 1, k, p => let h := bm n (k / 2) p; if k % 2 = 1 then pl (pl h h) p else pl h h

theorem bm_eq {p : Pt} (hp : Cv p) : ∀ n k, k < 2 ^ n → bm n k p = sm' k p
  | 0, k, h => by have : k = 0 := by simpa using h
                  subst this; rfl
  | n + 1, k, h => by
    have ih := bm_eq hp n (k / 2) (by rw [Nat.pow_succ] at h; omega)
    simp only [bm]
    rw [ih, ← sm_bit hp]
    split
    · have e : k = 2 * (k / 2) + 1 := by omega
      conv => rhs; rw [e]
      rfl
    · have e : k = 2 * (k / 2) := by omega
      conv => rhs; rw [e]

def base : Pt := .aff 1 509478702933351334
theorem cv_base : Cv base := by unfold Cv base On; decide +kernel

def N : Nat := 2305843010818082053

theorem bm_base : (bm 62 2305843010818082053 base == .zero) = true := by decide +kernel

theorem N_base : sm' N base = .zero := by
  rw [← bm_eq cv_base 62 N (by unfold N; omega)]
  have := bm_base
  exact eq_of_beq this

/-- killed by N -/
def Kd (p : Pt) : Prop := Cv p ∧ sm' N p = .zero

theorem kd_base : Kd base := ⟨cv_base, N_base⟩
theorem kd_zero : Kd .zero := ⟨trivial, sm_zero _⟩
theorem kd_sm {p : Pt} (h : Kd p) (k : Nat) : Kd (sm' k p) := ⟨cv_sm h.1 k, by rw [sm_mul h.1, Nat.mul_comm, ← sm_mul h.1, h.2, sm_zero]⟩
theorem kd_neg {p : Pt} (h : Kd p) : Kd (neg p) := ⟨cv_neg h.1, by rw [sm_neg h.1, h.2]; rfl⟩
end Grp
end
section
namespace Swu
open EC Fp
theorem pow_add (a : Fp) (j : Nat) : ∀ k, a ^ (j + k) = a ^ j * a ^ k
  | 0 => by rw [pow_zero']; show a ^ j = _; grobner
  | k + 1 => by rw [← Nat.add_assoc, pow_succ, pow_add a j k, pow_succ]; grobner

/-- half of the way round -/
def hf (a : Fp) : Fp := Fin.ofNat _ (NT.pw 2305843009213693951 62 a.val 1152921504606846975)

def g (x : Fp) : Fp := x*x*x + -3*x + 111

end Swu
end
section
namespace Vi
open EC Fp Grp
/-- the number of an element -/
def vi (a : Fp) : Int := (a.val : Int)

theorem vi_range (a : Fp) : 0 ≤ vi a ∧ vi a < 2305843009213693951 := by
  have := a.isLt
  unfold vi; omega

theorem vi_inj {a b : Fp} (h : vi a = vi b) : a = b := Fin.ext (by unfold vi at h; omega)

theorem vi_of {x : Int} (h0 : 0 ≤ x) (h : x < 2305843009213693951) : ∃ a : Fp, x = vi a :=
  ⟨⟨x.toNat, by omega⟩, by unfold vi; simp only []; omega⟩

theorem vi_add (a b : Fp) : (vi a + vi b) % 2305843009213693951 = vi (a + b) := by
  unfold vi; rw [Fin.val_add]; omega

theorem vi_mul (a b : Fp) : vi a * vi b % 2305843009213693951 = vi (a * b) := by
  unfold vi; rw [Fin.val_mul, Int.natCast_emod, Int.natCast_mul]; rfl

theorem vi_sub (a b : Fp) : (vi a - vi b) % 2305843009213693951 = vi (a - b) := by
  have h1 := a.isLt
  have h2 := b.isLt
  unfold vi; rw [Fin.val_sub]; omega

theorem vi_zero {a : Fp} : vi a = 0 ↔ a = 0 :=
  ⟨fun h => vi_inj (h.trans rfl), fun h => by rw [h]; rfl⟩

theorem vi_pow (a : Fp) (e : Nat) : vi a ^ e % 2305843009213693951 = vi (a ^ e) := by
  unfold vi; rw [pow_val, Int.natCast_emod, Int.natCast_pow]; rfl

theorem vi_inv (a : Fp) (e : Nat) (he : e = 2305843009213693949) : vi a ^ e % 2305843009213693951 = vi (inv a) := by
  rw [inv_eq a e he, vi_pow]

abbrev Sp := Fp × Fp × Fp

def sp0 : Sp := (1, 1, 0)
def spOf : Pt → Sp
  | .zero => sp0
  | .aff x y => (x, y, 1)

def dbl (s : Sp) : Sp :=
  if s.2.1 = 0 ∨ s.2.2 = 0 then sp0 else
  let yy := s.2.1 * s.2.1
  let zz := s.2.2 * s.2.2
  let v := 4 * s.1 * yy
  let m := 3 * (s.1 * s.1 - zz * zz)
  let x3 := m * m - v - v
  (x3, m * (v - x3) - 8 * yy * yy, s.2.1 * s.2.2 + s.2.1 * s.2.2)

def pls (s t : Sp) : Sp :=
  if s.2.2 = 0 then t else if t.2.2 = 0 then s else
  let z1 := s.2.2 * s.2.2
  let z2 := t.2.2 * t.2.2
  let u1 := s.1 * z2
  let u2 := t.1 * z1
  let s1 := s.2.1 * z2 * t.2.2
  let s2 := t.2.1 * z1 * s.2.2
  let h := u2 - u1
  let r := s2 - s1
  if h = 0 then if r = 0 then dbl s else sp0 else
  let hh := h * h
  let hhh := hh * h
  let v := u1 * hh
  let x3 := r * r - hhh - v - v
  (x3, r * (v - x3) - s1 * hhh, h * s.2.2 * t.2.2)

def ptOf (s : Sp) : Pt :=
  if s.2.2 = 0 then .zero else
  let i := inv s.2.2
  let ii := i * i
  .aff (s.1 * ii) (s.2.1 * ii * i)

def RepS (s : Sp) (p : Pt) : Prop := Jac.Rep s.1 s.2.1 s.2.2 p

theorem rep_sp0 : RepS sp0 .zero := rfl
theorem rep_spOf (p : Pt) : RepS (spOf p) p := by
  cases p with
  | zero => rfl
  | aff x y =>
    refine ⟨show (1 : Fp) ≠ 0 by decide, ?_, ?_⟩
    · show x = x * (1 * 1); grobner
    · show y = y * (1 * 1 * 1); grobner

theorem rep_ptOf {s : Sp} {p : Pt} (h : RepS s p) : ptOf s = p := by
  unfold ptOf
  cases p with
  | zero => rw [if_pos (show s.2.2 = 0 from h)]
  | aff x y =>
    rw [if_neg h.1]
    obtain ⟨e1, e2⟩ := Jac.rep_back h
    simp only []
    rw [e1, e2]

theorem rep_dbl {s : Sp} {p : Pt} (hp : Cv p) (h : RepS s p) : RepS (dbl s) (pl p p) := by
  unfold dbl
  cases p with
  | zero =>
    rw [if_pos (.inr (show s.2.2 = 0 from h))]; exact rep_sp0
  | aff x y =>
    have hz := h.1
    have hy3 := h.2.2
    by_cases hY : s.2.1 = 0
    · rw [if_pos (.inl hY)]
      have hy : y = 0 := by
        have e : y * (s.2.2 * s.2.2 * s.2.2) = 0 := hy3.symm.trans hY
        rcases mul_zero_or e with e | e
        · exact e
        · exact absurd e (Jac.mul_ne (Jac.mul_ne hz hz) hz)
      subst hy
      rw [show pl (Pt.aff x 0) (Pt.aff x 0) = Pt.zero from add_opp (by decide)]
      exact rep_sp0
    · rw [if_neg (fun e => e.elim hY hz)]
      exact Jac.rep_double hp h hY rfl rfl rfl rfl rfl

theorem rep_pls {s t : Sp} {p q : Pt} (hp : Cv p) (hq : Cv q) (h : RepS s p) (k : RepS t q) : RepS (pls s t) (pl p q) := by
  unfold pls
  cases p with
  | zero => rw [if_pos (show s.2.2 = 0 from h)]; rw [show pl Pt.zero q = q from add_zero_left _ q]; exact k
  | aff x1 y1 =>
    rw [if_neg h.1]
    cases q with
    | zero => rw [if_pos (show t.2.2 = 0 from k)]; rw [show pl (Pt.aff x1 y1) Pt.zero = Pt.aff x1 y1 from add_zero_right _ _]; exact h
    | aff x2 y2 =>
      rw [if_neg k.1]
      simp only []
      by_cases hh : t.1 * (s.2.2 * s.2.2) - s.1 * (t.2.2 * t.2.2) = 0
      · rw [if_pos hh]
        have ex := Jac.same_x h k hh
        have ey := Jac.same_y h k
        subst ex
        by_cases hr : t.2.1 * (s.2.2 * s.2.2) * s.2.2 - s.2.1 * (t.2.2 * t.2.2) * t.2.2 = 0
        · rw [if_pos hr]
          obtain rfl := ey.1 hr
          exact rep_dbl hp h
        · rw [if_neg hr]
          have hne : y1 ≠ y2 := fun e => hr (ey.2 e)
          have : y1 + y2 = 0 := by
            rcases same_or_opp (a := -3) (b := 111) (x := x1) hp hq with e | e
            · exact absurd e.symm hne
            · exact e
          rw [show pl (Pt.aff x1 y1) (Pt.aff x1 y2) = Pt.zero from add_opp this]
          exact rep_sp0
      · rw [if_neg hh]
        have := Jac.rep_plus hp hq h k rfl rfl rfl rfl rfl rfl rfl rfl hh
        refine cast ?_ this
        unfold RepS
        simp only []

end Vi
end
