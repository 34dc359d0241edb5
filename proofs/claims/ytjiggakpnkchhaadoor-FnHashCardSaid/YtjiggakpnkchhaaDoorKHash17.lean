/- What the proof of FnHash leans on, part 17: cut out of the texts of this claim's making by a program (wip/tools/pack.py). -/
import Derived.Test.YtjiggakpnkchhaaDoorKHash5
import Derived.Test.YtjiggakpnkchhaaDoorKHash16
import Derived.Lib.Zigzag
section
namespace Go.Proofs.YtjiggakpnkchhaaDoor.Pure
open Go.RowKit Go.Proofs.YtjiggakpnkchhaaDoor.B Go.Proofs.YtjiggakpnkchhaaDoor.H0 Go.Proofs.YtjiggakpnkchhaaDoorW.PrintWords Go.Proofs.YtjiggakpnkchhaaDoorW.PrintLast Go.Proofs.YtjiggakpnkchhaaDoorW.PrintMore
set_option linter.unusedVariables false
set_option linter.unusedSimpArgs false
namespace Draw
theorem u8_wf {a : Int} (h : (Lit.int .u8 a).wf = true) : 0 ≤ a ∧ a < 256 := by
  have := bounds_u8 h
  omega
theorem rd_range {l : List Int} (hx : ∀ x ∈ l, (Lit.int .u8 x).wf = true) (i : Int) : 0 ≤ rd l i ∧ rd l i < 256 := by
  unfold rd
  rw [List.getD_eq_getElem?_getD]
  by_cases h : i.toNat < l.length
  · rw [List.getElem?_eq_getElem h]
    have := hx _ (List.getElem_mem h)
    have h2 := u8_wf this
    simpa using h2
  · rw [List.getElem?_eq_none (by omega)]; decide

theorem takeU (l : List Int) {p n : Int} (hl : l.length ≤ 1048576) (hp0 : 0 ≤ p) (hp : p ≤ 1125899906842624) (hn : 1 ≤ n) : ∃ v, -n < v ∧ v < n ∧ ∀ k, 1 ≤ k → spec_l1Take.f k l p n = some (v, p + 1) := by
  obtain ⟨v, h0, h1, e⟩ := take l (p := p) (n := n) hl hp0 hp hn (k := 1) (by omega)
  exact ⟨v, h0, h1, fun k hk => up (g := fun k => spec_l1Take.f k l p n) (spec_l1Take.mono _ _ _) hk e⟩
theorem bytesU (l : List Int) (hl : l.length ≤ 1048576) {n p : Int} (hn : n ≤ 1000) (hp0 : 0 ≤ p) (hp : p ≤ 1000000000) : ∃ s q, (∀ k, 1002 ≤ k → spec_l1Bytes.f k l p n = some (s, q)) ∧ s.size = n.toNat ∧ p ≤ q ∧ q ≤ p + 1000 := by
  obtain ⟨s, q, e, h⟩ := bytes l hl hn hp0 hp (k := 1002) (by omega)
  exact ⟨s, q, fun k hk => up (g := fun k => spec_l1Bytes.f k l p n) (spec_l1Bytes.mono _ _ _) hk e, h⟩
theorem dsha_go (l : List Int) (hl : l.length ≤ 1048576) {n : Int} (hn : n < 1000) : ∀ (m k : Nat) (p : Int) (acc : List Int) (i : Int), 0 ≤ i → n ≤ i + m → m + 1 < k → acc.length + m ≤ 1000000 → 0 ≤ p → p + m ≤ 1125899906842624 →
    ∃ s, spec_DrawSha256.l0 k l n p acc i = some s ∧ s.size ≤ acc.length + m
  | m, k, p, acc, i, h0, h1, hk, ha, hp0, hp => by
    obtain ⟨k, rfl⟩ : ∃ j, k = j + 1 := ⟨k - 1, by omega⟩
    simp only [spec_DrawSha256.l0]
    by_cases hi : i < n
    · obtain ⟨m, rfl⟩ : ∃ j, m = j + 1 := ⟨m - 1, by omega⟩
      rw [if_pos hi]
      obtain ⟨v, _, _, hv⟩ := take l (p := p) (n := 256) hl hp0 (by omega) (by omega) (k := k) (by omega)
      rw [hv]
      simp only [Option.bind_some]
      rw [if_pos (by omega), w64 (by omega) (by omega)]
      obtain ⟨s, hs, hz⟩ := dsha_go l hl hn m k (p + 1) (acc ++ [v % 256]) (i + 1) (by omega) (by omega) (by omega) (by simp; omega) (by omega) (by omega)
      exact ⟨s, hs, by rw [List.length_append] at hz; simp at hz; omega⟩
    · rw [if_neg hi]
      exact ⟨_, rfl, by rw [strOfNums_size]; omega⟩
theorem drawSha (l : List Int) (hl : l.length ≤ 1048576) : ∃ K s, (∀ k, K ≤ k → spec_DrawSha256.f k l = some s) ∧ s.size ≤ 1000 := by
  obtain ⟨a, a0, a1, ea⟩ := takeU l (p := 0) (n := 4) hl (by omega) (by omega) (by omega)
  obtain ⟨b, b0, b1, eb⟩ := takeU l (p := 0 + 1) (n := 20) hl (by omega) (by omega) (by omega)
  have t1 := tmod_range b (show (1 : Int) ≤ 12 by decide)
  have key : ∀ n : Int, n < 1000 → ∃ s, spec_DrawSha256.j0 1010 l n (0 + 1 + 1) = some s ∧ s.size ≤ 1000 := by
    intro n hn
    obtain ⟨s, hs, hz⟩ := dsha_go l hl hn n.toNat 1009 (0 + 1 + 1) [] 0 (by omega) (by omega) (by omega) (by simp; omega) (by omega) (by omega)
    exact ⟨s, by simp only [spec_DrawSha256.j0]; exact hs, by simp at hz; omega⟩
  by_cases h : a < 3
  · obtain ⟨s, hs, hz⟩ := key (wrap64 ((wrap64 (54 + (wrap64 (64 * a)))) + (Int.tmod b 12))) (by rw [w64 (n := 64 * a) (by omega) (by omega), w64 (n := 54 + 64 * a) (by omega) (by omega), w64 (by omega) (by omega)]; omega)
    refine ⟨1010, s, fun k hk => up (g := fun k => spec_DrawSha256.f k l) (spec_DrawSha256.mono _) hk ?_, hz⟩
    show spec_DrawSha256.f 1010 l = some s
    unfold spec_DrawSha256.f
    rw [ea 1010 (by omega), Option.bind_some, eb 1010 (by omega), Option.bind_some, if_pos h, hs]
  · obtain ⟨s, hs, hz⟩ := key b (by omega)
    refine ⟨1010, s, fun k hk => up (g := fun k => spec_DrawSha256.f k l) (spec_DrawSha256.mono _) hk ?_, hz⟩
    show spec_DrawSha256.f 1010 l = some s
    unfold spec_DrawSha256.f
    rw [ea 1010 (by omega), Option.bind_some, eb 1010 (by omega), Option.bind_some, if_neg h, hs]
theorem drawHmac (l : List Int) (hl : l.length ≤ 1048576) : ∃ K a s, (∀ k, K ≤ k → spec_DrawHmac.f k l = some (a, s)) ∧ a.size ≤ 1000 ∧ s.size ≤ 70000 := by
  obtain ⟨n, n0, n1, en⟩ := takeU l (p := 0) (n := 70) hl (by omega) (by omega) (by omega)
  obtain ⟨a, q, ea, ha, q0, q1⟩ := bytesU l hl (n := n) (p := 0 + 1) (by omega) (by omega) (by omega)
  obtain ⟨K, s, r, es, hs, _, _⟩ := some_ l hl (p := q) (by omega) (by omega)
  refine ⟨K + 1002, a, s, fun k hk => ?_, by omega, hs⟩
  unfold spec_DrawHmac.f
  rw [en k (by omega), Option.bind_some, ea k (by omega), Option.bind_some, es k (by omega), Option.bind_some]
theorem drawExpand (l : List Int) (hl : l.length ≤ 1048576) : ∃ K a s n, (∀ k, K ≤ k → spec_DrawExpand.f k l = some (a, s, n)) ∧ a.size ≤ 1000 ∧ s.size ≤ 70000 ∧ -100000 < n ∧ n < 100000 := by
  obtain ⟨h, h0, h1, eh⟩ := takeU l (p := 0) (n := 20) hl (by omega) (by omega) (by omega)
  obtain ⟨a, q, ea, ha, q0, q1⟩ := bytesU l hl (n := 32) (p := 0 + 1) (by omega) (by omega) (by omega)
  obtain ⟨K, s, r, es, hs, r0, r1⟩ := some_ l hl (p := q) (by omega) (by omega)
  obtain ⟨n, n0, n1, en⟩ := takeU l (p := r) (n := 200) hl (by omega) (by omega) (by omega)
  have t1 := tmod_range n (show (1 : Int) ≤ 2 by decide)
  have e : ∀ k, K + 1002 ≤ k → spec_DrawExpand.f k l = if h = 18 then some (a, s, wrap64 (8160 + (Int.tmod n 2))) else if h = 19 then some (a, s, wrap64 (-n)) else some (a, s, n) := by
    intro k hk
    unfold spec_DrawExpand.f
    rw [eh k (by omega), Option.bind_some, ea k (by omega), Option.bind_some, es k (by omega), Option.bind_some, en k (by omega), Option.bind_some]
  by_cases g : h = 18
  · exact ⟨K + 1002, a, s, _, fun k hk => by rw [e k hk, if_pos g], by omega, hs, by rw [w64 (by omega) (by omega)]; omega, by rw [w64 (by omega) (by omega)]; omega⟩
  · by_cases g2 : h = 19
    · exact ⟨K + 1002, a, s, _, fun k hk => by rw [e k hk, if_neg g, if_pos g2], by omega, hs, by rw [w64 (by omega) (by omega)]; omega, by rw [w64 (by omega) (by omega)]; omega⟩
    · exact ⟨K + 1002, a, s, n, fun k hk => by rw [e k hk, if_neg g, if_neg g2], by omega, hs, by omega, by omega⟩
theorem drawTag (l : List Int) (hl : l.length ≤ 1048576) {p : Int} (hp0 : 0 ≤ p) (hp : p ≤ 800000000) : ∃ K t q, (∀ k, K ≤ k → spec_l4DrawTag.f k l p = some (t, q)) ∧ p ≤ q ∧ q ≤ p + 1002 := by
  obtain ⟨h, h0, h1, eh⟩ := takeU l (p := p) (n := 20) hl hp0 (by omega) (by omega)
  obtain ⟨n, n0, n1, en⟩ := takeU l (p := p + 1) (n := 30) hl (by omega) (by omega) (by omega)
  have t1 := tmod_range n (show (1 : Int) ≤ 2 by decide)
  obtain ⟨K1, t, ht, hz⟩ := long (⟨#[116, 97, 103]⟩ : ByteArray) (by decide) (by decide) (n := 255 + Int.tmod n 2) (by omega) (by omega)
  obtain ⟨a, q, ea, ha, q0, q1⟩ := bytesU l hl (n := n + 1) (p := p + 1 + 1) (by omega) (by omega) (by omega)
  by_cases g : h = 18
  · refine ⟨K1 + 1, t, p + 1 + 1, fun k hk => ?_, by omega, by omega⟩
    unfold spec_l4DrawTag.f
    rw [eh k (by omega)]; simp only [Option.bind_some]; rw [en k (by omega)]; simp only [Option.bind_some]; rw [if_pos g, w64 (by omega) (by omega), ht k (by omega), Option.bind_some]
  · by_cases g2 : h = 19
    · refine ⟨1, ⟨#[]⟩, p + 1 + 1, fun k hk => ?_, by omega, by omega⟩
      unfold spec_l4DrawTag.f
      rw [eh k (by omega), Option.bind_some, en k (by omega), Option.bind_some, if_neg g, if_pos g2]
    · refine ⟨1002, a, q, fun k hk => ?_, by omega, by omega⟩
      unfold spec_l4DrawTag.f
      rw [eh k (by omega)]; simp only [Option.bind_some]; rw [en k (by omega)]; simp only [Option.bind_some]; rw [if_neg g, if_neg g2, w64 (by omega) (by omega), ea k (by omega), Option.bind_some]
theorem drawExpandMessage (l : List Int) (hl : l.length ≤ 1048576) : ∃ K s t n, ∀ k, K ≤ k → spec_DrawExpandMessage.f k l = some (s, t, n) := by
  obtain ⟨h, h0, h1, eh⟩ := takeU l (p := 0) (n := 20) hl (by omega) (by omega) (by omega)
  obtain ⟨K1, s, r, es, hs, r0, r1⟩ := some_ l hl (p := 0 + 1) (by omega) (by omega)
  obtain ⟨K2, t, q, et, q0, q1⟩ := drawTag l hl (p := r) (by omega) (by omega)
  obtain ⟨n, n0, n1, en⟩ := takeU l (p := q) (n := 200) hl (by omega) (by omega) (by omega)
  have e : ∀ k, K1 + K2 + 1 ≤ k → spec_DrawExpandMessage.f k l = if h = 18 then some (s, t, wrap64 (8160 + (Int.tmod n 2))) else if h = 19 then some (s, t, wrap64 (1 - (Int.tmod n 3))) else some (s, t, wrap64 (n + 1)) := by
    intro k hk
    unfold spec_DrawExpandMessage.f
    rw [eh k (by omega), Option.bind_some, es k (by omega), Option.bind_some, et k (by omega), Option.bind_some, en k (by omega), Option.bind_some]
  by_cases g : h = 18
  · exact ⟨K1 + K2 + 1, s, t, _, fun k hk => by rw [e k hk, if_pos g]⟩
  · by_cases g2 : h = 19
    · exact ⟨K1 + K2 + 1, s, t, _, fun k hk => by rw [e k hk, if_neg g, if_pos g2]⟩
    · exact ⟨K1 + K2 + 1, s, t, _, fun k hk => by rw [e k hk, if_neg g, if_neg g2]⟩
end Draw
end Go.Proofs.YtjiggakpnkchhaaDoor.Pure
end
