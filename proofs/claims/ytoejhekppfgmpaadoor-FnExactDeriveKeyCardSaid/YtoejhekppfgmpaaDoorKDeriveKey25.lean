/- What the proof of FnExactDeriveKey leans on, part 25: cut out of the texts of this claim's making by a program (wip/tools/pack.py). -/
import Derived.Test.YtoejhekppfgmpaaDoorKDeriveKey9
import Derived.Test.YtoejhekppfgmpaaDoorKDeriveKey16
import Derived.Test.YtoejhekppfgmpaaDoorKDeriveKey23
import Derived.Test.YtoejhekppfgmpaaDoorKDeriveKey24
import Derived.Lib.Hide
import Derived.LoopTactic
import Derived.WalkSpells
section
namespace Go.Proofs.YtoejhekppfgmpaaDoor.DK
open Go Go.RowKit Go.Shelf Go.Proofs.YtoejhekppfgmpaaDoorW.PrintWords Go.Proofs.YtoejhekppfgmpaaDoorW.PrintLast Go.Proofs.YtoejhekppfgmpaaDoorW.PrintMore Go.Proofs.YtoejhekppfgmpaaDoor.K0 Go.Proofs.YtoejhekppfgmpaaDoor.K2 Go.Proofs.YtoejhekppfgmpaaDoor.K3 Go.Proofs.YtoejhekppfgmpaaDoor.K4 Go.Proofs.YtoejhekppfgmpaaDoor.K5 Go.Proofs.YtoejhekppfgmpaaDoor.K8 Go.Proofs.YtoejhekppfgmpaaDoor.K9 Go.Proofs.YtoejhekppfgmpaaDoor.S5 Go.Proofs.YtoejhekppfgmpaaDoor.T5 Go.Proofs.YtoejhekppfgmpaaDoor.G2 Go.Proofs.YtoejhekppfgmpaaDoor.T6 Go.Proofs.YtoejhekppfgmpaaDoor.T7 Go.Proofs.YtoejhekppfgmpaaDoor.Hf Go.Proofs.YtoejhekppfgmpaaDoor.Hp
set_option linter.unusedVariables false
set_option linter.unusedSimpArgs false
def dkp : ByteArray := ⟨#[68, 101, 114, 105, 118, 101, 75, 101, 121, 80, 97, 105, 114]⟩
/-- the i-th number of a seed -/
def kd (m : Int) (seed info : ByteArray) (i : Nat) : Int := (htsV ((seed ++ szd info) ++ strOfNums [(i : Int)]) (tagV dkp m)).1
/-- the first that is not zero, of d more -/
def dkF (m : Int) (seed info : ByteArray) : Nat → Nat → Int × Int
  | 0, _ => (0, 3)
  | d + 1, i => if kd m seed info i = 0 then dkF m seed info d (i + 1) else (kd m seed info i, 0)
def dk (m : Int) (seed info : ByteArray) : Int × Int := if m < 0 ∨ 2 < m ∨ seed.size ≠ 32 ∨ 60000 < info.size then (0, 1) else dkF m seed info 256 0
def pts (seed info : ByteArray) (i : Nat) : List Part := [.bare seed, .sized info, .bare (strOfNums [(i : Int)])]
theorem ttx_pts (seed info : ByteArray) (i : Nat) : ttx (pts seed info i) = (seed ++ szd info) ++ strOfNums [(i : Int)] := by
  unfold ttx tbs pts
  simp only [List.map_cons, List.map_nil, List.flatten_cons, List.flatten_nil, Part.txt, List.append_nil]
  rw [← Array.toList_append, ← Array.toList_append, ← ByteArray.data_append, ← ByteArray.data_append, ByteArray.append_assoc]
theorem ttot_pts (seed info : ByteArray) (i : Nat) (h1 : seed.size = 32) (h2 : info.size ≤ 60000) : ttot (pts seed info i) < 70368744177664 := by
  have e : (strOfNums [(i : Int)]).size = 1 := rfl
  unfold ttot pts
  simp only [List.map_cons, List.map_nil, List.sum_cons, List.sum_nil, Part.txt, szd_size, e]
  omega
theorem ok_pts (seed info : ByteArray) (i : Nat) (h1 : seed.size = 32) (h2 : info.size ≤ 60000) : ∀ p ∈ pts seed info i, p.ok := by
  have e : (strOfNums [(i : Int)]).size = 1 := rfl
  intro p hp
  unfold pts at hp
  simp only [List.mem_cons, List.not_mem_nil, or_false] at hp
  rcases hp with rfl | rfl | rfl
  · show seed.size < _; omega
  · show info.size < _; omega
  · show (strOfNums [(i : Int)]).size < _; rw [e]; omega
set_option maxRecDepth 100000 in
set_option maxHeartbeats 8000000 in
theorem dk_c (m : Int) (seed info : ByteArray) (w : World) (hi : info.size < 274877906944) (hs : seed.size < 274877906944) (hG : G w) :
    Calls Tryd.prog 37 #[.int .i64 m, .string seed, .string info] w fun e w' => e = .returned (.tuple #[.int .u64 (dk m seed info).1, .int .i64 (dk m seed info).2]) ∧ Below w.heap.size w w' := by
  have hG' := Lib.hid hG
  clear hG
  by_cases hg : m < 0 ∨ 2 < m ∨ seed.size ≠ 32 ∨ 60000 < info.size
  · have e0 := Lib.hid (show dk m seed info = (0, 1) by unfold dk; rw [if_pos hg])
    have hgm : ∀ W, Calls Tryd.prog 86 #[.int .i64 m] W fun e w' => e = .returned (.bool (decide (0 ≤ m ∧ m ≤ 2))) ∧ w' = W := fun W => by
      go_enter Tryd.func86, Tryd.ntmps86
      by_cases h0 : m ≥ 0
      · go_wp2_with fail
        go_ret
        exact ⟨by congr 2; first | (exact (decide_eq_decide.2 (by omega)) ) | simp [h0], rfl⟩
      · go_wp2_with fail
        go_ret
        exact ⟨by rw [show decide (0 ≤ m) = false from decide_eq_false (by omega)]; rfl, rfl⟩
    by_cases hm : 0 ≤ m ∧ m ≤ 2
    · have hgm' := Lib.hid (show ∀ W, Calls Tryd.prog 86 #[.int .i64 m] W fun e w' => e = .returned (.bool true) ∧ w' = W from fun W => (hgm W).mono fun e w' ⟨a, b⟩ => ⟨by rw [a, decide_eq_true hm], b⟩)
      clear hgm
      by_cases h3 : (seed.size : Int) = 32
      · have h4 : (info.size : Int) > 60000 := by omega
        clear hg
        go_enter Tryd.func37, Tryd.ntmps37
        go_wp2_with (go_at_call 86; (with_reducible refine (hgm'.out _).mono ?_); rintro e w2 ⟨rfl, hw2⟩; obtain rfl := hw2.symm)
        go_ret2
        rw [e0.out]
        exact ⟨rfl, Below.refl _ _⟩
      · clear hg
        go_enter Tryd.func37, Tryd.ntmps37
        go_wp2_with (go_at_call 86; (with_reducible refine (hgm'.out _).mono ?_); rintro e w2 ⟨rfl, hw2⟩; obtain rfl := hw2.symm)
        go_ret2
        rw [e0.out]
        exact ⟨rfl, Below.refl _ _⟩
    · have hgm' := Lib.hid (show ∀ W, Calls Tryd.prog 86 #[.int .i64 m] W fun e w' => e = .returned (.bool false) ∧ w' = W from fun W => (hgm W).mono fun e w' ⟨a, b⟩ => ⟨by rw [a, decide_eq_false hm], b⟩)
      clear hgm hg
      go_enter Tryd.func37, Tryd.ntmps37
      go_wp2_with (go_at_call 86; (with_reducible refine (hgm'.out _).mono ?_); rintro e w2 ⟨rfl, hw2⟩; obtain rfl := hw2.symm)
      go_ret2
      rw [e0.out]
      exact ⟨rfl, Below.refl _ _⟩
  · have e0 := Lib.hid (show dk m seed info = dkF m seed info 256 0 by unfold dk; rw [if_neg hg])
    have h0 : 0 ≤ m := by omega
    have h2 : m ≤ 2 := by omega
    have h3n : seed.size = 32 := by omega
    have h4n : info.size ≤ 60000 := by omega
    have h3 : (seed.size : Int) = 32 := by omega
    have h4 : ¬ (info.size : Int) > 60000 := by omega
    have hgm' := Lib.hid (show ∀ W, Calls Tryd.prog 86 #[.int .i64 m] W fun e w' => e = .returned (.bool true) ∧ w' = W from fun W => by
      have h0' : m ≥ 0 := h0
      go_enter Tryd.func86, Tryd.ntmps86
      go_wp2_with fail
      go_ret
      exact ⟨rfl, rfl⟩)
    have k0 := Lib.hid h0
    have k2 := Lib.hid h2
    have k3 := Lib.hid h3n
    have k4 := Lib.hid h4n
    clear hg hi hs h0 h2 h3n h4n
    go_enter Tryd.func37, Tryd.ntmps37
    go_wp2_with (go_at_call 86; (with_reducible refine (hgm'.out _).mono ?_); rintro e w2 ⟨rfl, hw2⟩; obtain rfl := hw2.symm)
    clear h3 h4
    go_loopw [23] (fun i wr => ∃ k : Nat, k ≤ 256 ∧ i = .int .i64 k ∧ dkF m seed info 256 0 = dkF m seed info (256 - k) k ∧ Below w.heap.size w wr) (fun i _ => 256 - (intOf i).toNat)
    case atStart => exact ⟨0, by omega, rfl, rfl, Below.refl _ _⟩
    case round =>
      obtain ⟨k, hk, rfl, hF, hb⟩ := hrel
      have hF' := Lib.hid hF
      have hb' := Lib.hid hb
      clear hF hb
      by_cases hlt : k < 256
      · have hlt2 : (k : Int) < 256 := by omega
        have hs1 := str1 wr (k : Int)
        go_wp2_with fail
        go_at_call 87
        have hbs := (below_alloc wr (.cells #[.int .u8 (k : Int)] 5 (0, 0))).trans ((below_alloc (wr.alloc (.cells #[.int .u8 (k : Int)] 5 (0, 0))) (.cells #[Part.val (.bare seed), Part.val (.sized info), Part.val (.bare (strOfNums [(k : Int)]))] 188 (0, 0))).mono (by simp))
        refine (scalar_c m dkp (wr.heap.size + 1) (pts seed info k) 3 _ k0.out k2.out (by decide) (ttot_pts seed info k k3.out k4.out) (show 3 < 1000 by decide) (ok_pts seed info k k3.out k4.out) (G_below hbs (G_below hb'.out hG'.out)) ⟨_, _, heap_alloc2_new wr _ _⟩).mono ?_
        rintro e w3 ⟨rfl, hb3⟩
        rw [ttx_pts]
        have hkd : (htsV ((seed ++ szd info) ++ strOfNums [(k : Int)]) (tagV dkp m)).1 = kd m seed info k := rfl
        rw [hkd]
        have hbb := Lib.hid ((hb'.out.trans (hbs.mono hb'.out.size)).trans (hb3.mono (Nat.le_trans hb'.out.size hbs.size)))
        have hst := Lib.hid (show dkF m seed info (256 - k) k = if kd m seed info k = 0 then dkF m seed info (256 - (k + 1)) (k + 1) else (kd m seed info k, 0) by rw [show 256 - k = (256 - (k + 1)) + 1 by omega]; rfl)
        clear hbs hb3 hs1 hkd
        generalize kd m seed info k = z at *
        by_cases hz : z = 0
        · subst hz
          go_wp2_with fail
          go_roundw
          case rel => exact ⟨k + 1, by omega, by go_num, by rw [hF'.out, hst.out]; exact if_pos trivial, hbb.out⟩
          case measure => simp [intOf]; omega
        · go_wp2_with fail
          go_ret2
          rw [e0.out, hF'.out, hst.out, if_neg hz]
          exact ⟨rfl, hbb.out⟩
      · have hlt2 : ¬ (k : Int) < 256 := by omega
        have hk2 : 256 - k = 0 := by omega
        go_wp2_with fail
        go_ret2
        rw [e0.out, hF'.out, hk2]
        exact ⟨rfl, hb'.out⟩
def impl_DeriveKey.f (m : Int) (seed info : ByteArray) : Option (Int × Int) := if seed.size < 274877906944 then if info.size < 274877906944 then some (dk m seed info) else none else none
theorem impl_DeriveKey.calls (m : Int) (seed info : ByteArray) (r1 r2 : Int) (w : World) (hG : G w) (h : impl_DeriveKey.f m seed info = some (r1, r2)) :
    Calls Tryd.prog 37 #[.int .i64 m, .string seed, .string info] w fun e w' => e = .returned (.tuple #[.int .u64 r1, .int .i64 r2]) ∧ Below w.heap.size w w' := by
  unfold impl_DeriveKey.f at h
  split at h
  · split at h
    · have h2 := Option.some.inj h
      have e1 : (dk m seed info).1 = r1 := by rw [h2]
      have e2 : (dk m seed info).2 = r2 := by rw [h2]
      rw [← e1, ← e2]
      exact dk_c m seed info w (by assumption) (by assumption) hG
    · cases h
  · cases h
end Go.Proofs.YtoejhekppfgmpaaDoor.DK
end
