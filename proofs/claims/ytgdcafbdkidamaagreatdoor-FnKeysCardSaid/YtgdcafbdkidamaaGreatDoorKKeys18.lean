/- What the proof of FnKeys leans on, part 18: cut out of the texts of this claim's making by a program (wip/tools/pack.py). -/
import Derived.Test.YtgdcafbdkidamaaGreatDoorKKeys9
import Derived.Test.YtgdcafbdkidamaaGreatDoorKKeys13
import Derived.Test.YtgdcafbdkidamaaGreatDoorKKeys17
import Derived.Lib.Hide
import Derived.Lib.OthersKept
import Derived.LoopTactic
import Derived.Shelf.Strings.BuilderK
import Derived.Shelf.Strings.Repeat
section
namespace Go.Proofs.YtgdcafbdkidamaaGreatDoor.K4
open Go Go.RowKit Go.Shelf Go.Proofs.YtgdcafbdkidamaaGreatDoorW.PrintWords Go.Proofs.YtgdcafbdkidamaaGreatDoorW.PrintLast Go.Proofs.YtgdcafbdkidamaaGreatDoorW.PrintMore Go.Proofs.YtgdcafbdkidamaaGreatDoor.K0 Go.Proofs.YtgdcafbdkidamaaGreatDoor.K2 Go.Proofs.YtgdcafbdkidamaaGreatDoor.K3 Go.Proofs.YtgdcafbdkidamaaGreatDoor.B
set_option linter.unusedVariables false
set_option linter.unusedSimpArgs false
/-- a builder of the call's own that holds these bytes -/
def Bd (w : World) (B b : Nat) (l : List UInt8) : Prop := Lib.IsBuilderF 160 5 B b (Lib.byteCells l) w
theorem bdAt_below {T e : TypeId} {B b : Nat} {p : Value} {bs : List Value} {W W' : World} (h : Lib.BuilderAtF T e B b p bs W) (hb : Below W.heap.size W W') : Lib.BuilderAtF T e B b p bs W' := by
  have hl := h.lt
  obtain ⟨hB, v, hbk, hown, hne⟩ := h
  exact ⟨hB, v, (hb.block _ hl).trans hbk, hown.kept (row := none) (gb_of hb) (by by_cases e : v.ownBlock = none; exact .inl e; exact .inr e), hne⟩
theorem Bd.below {W W' : World} {B b : Nat} {l : List UInt8} (h : Bd W B b l) (hb : Below W.heap.size W W') : Bd W' B b l := Or.imp (fun h => bdAt_below h hb) (fun h => bdAt_below h hb) h
theorem wstr_c (B b : Nat) (l : List UInt8) (s : ByteArray) (w : World) (h : Bd w B b l) (hlen : l.length + s.size ≤ 140737488355328) (hBw : B ≤ w.heap.size) :
    Calls Tryz.prog 132 #[.pointer (some ⟨b, 0, none⟩), .string s] w fun e w' => e = .returned (.tuple #[.int .i64 s.size, .nilIface]) ∧ Bd w' B b (l ++ s.data.toList) ∧ Below B w w' ∧ Lib.OthersKept 5 (some b) w w' :=
  (Any.Builder_WriteString_k (P := Tryz.prog) (ρ := Tryz.lays105_ren) { Tryz.lays105 with } Tryz.Builder_Extra_105 B b _ s w h (by rw [Lib.byteCells_length]; exact hlen) hBw).mono fun e w' ⟨he, h1, h2, h3⟩ =>
    ⟨he, .inr (by have e1 : Lib.byteCells l ++ Lib.strCells s = Lib.byteCells (l ++ s.data.toList) := by unfold Lib.byteCells Lib.strCells; rw [List.map_append]
                  rw [← e1]; exact h1), h2, h3⟩
theorem str_c (B b : Nat) (l : List UInt8) (w : World) (h : Bd w B b l) (hBw : B ≤ w.heap.size) :
    Calls Tryz.prog 127 #[.pointer (some ⟨b, 0, none⟩)] w fun e w' => e = .returned (.string ⟨l.toArray⟩) ∧ Bd w' B b l ∧ Below B w w' ∧ Lib.OthersKept 5 (some b) w w' := Tryz.Builder_String_any_k B b l w h hBw
theorem len_c (B b : Nat) (l : List UInt8) (w : World) (h : Bd w B b l) :
    Calls Tryz.prog 131 #[.pointer (some ⟨b, 0, none⟩)] w fun e w' => e = .returned (.int .i64 l.length) ∧ w' = w := by
  have := Tryz.Builder_Len_f B b _ w h
  rwa [Lib.byteCells_length] at this
theorem bd_new (w : World) : Bd (w.alloc (.cells #[.pointer none, .slice none 0 0] 160 (0, 0))) w.heap.size w.heap.size [] := Lib.IsBuilderF.of (Lib.fresh_isBuilder _ _ w)

/-- bytes, the highest first -/
def b4 (x : Int) : List Int := [x / 16777216 % 256, x / 65536 % 256, x / 256 % 256, x % 256]
def b8 (x : Int) : List Int := [x / 72057594037927936 % 256, x / 281474976710656 % 256, x / 1099511627776 % 256, x / 4294967296 % 256, x / 16777216 % 256, x / 65536 % 256, x / 256 % 256, x % 256]
def ub (xs : List Int) : List UInt8 := xs.map fun n => UInt8.ofNat n.toNat
theorem str_ub (xs : List Int) : strOfNums xs = ⟨(ub xs).toArray⟩ := rfl
theorem ub_app (a b : List Int) : ub (a ++ b) = ub a ++ ub b := List.map_append ..
theorem ub_len (a : List Int) : (ub a).length = a.length := List.length_map ..
def Bytes (xs : List Int) : Prop := ∀ x ∈ xs, 0 ≤ x ∧ x < 256
theorem sb_ub : ∀ {xs : List Int}, Bytes xs → (ub xs).map (fun b => (b.toNat : Int)) = xs
  | [], _ => rfl
  | x :: r, h => by
    have h1 := h x (List.mem_cons_self ..)
    have h2 := sb_ub (xs := r) (fun y hy => h y (List.mem_cons_of_mem _ hy))
    unfold ub at h2 ⊢
    rw [List.map_cons, List.map_cons, h2]
    congr 1
    simp only [UInt8.toNat_ofNat']
    omega
theorem sb_str {xs : List Int} (h : Bytes xs) : sb (strOfNums xs) = xs := sb_ub h
theorem sb_app (a b : ByteArray) : sb (a ++ b) = sb a ++ sb b := by unfold sb; simp
theorem bytes_b4 (x : Int) : Bytes (b4 x) := by intro y hy; simp [b4] at hy; omega
theorem bytes_b8 (x : Int) : Bytes (b8 x) := by intro y hy; simp [b8] at hy; omega

theorem at_least {α : Type} {f : Nat → Option α} (hm : ∀ k, LeO (f k) (f (k + 1))) {k0 : Nat} {r : α} (h : f k0 = some r) : ∀ {k : Nat}, k0 ≤ k → f k = some r
  | 0, hk => by rw [show k0 = 0 by omega] at h; exact h
  | k + 1, hk => by
    by_cases e : k0 = k + 1
    · rw [← e]; exact h
    · exact hm k _ (at_least hm h (by omega))
theorem be4 (a : Int) : impl_bigEndian.f 20 a 4 = some (strOfNums (b4 a)) := by
  simp [impl_bigEndian.f, impl_bigEndian.l0, wrap64, List.replicate_succ, b4, shr, IntKind.bits]
theorem be8 (a : Int) : impl_bigEndian.f 20 a 8 = some (strOfNums (b8 a)) := by
  simp [impl_bigEndian.f, impl_bigEndian.l0, wrap64, List.replicate_succ, b8, shr, IntKind.bits]
theorem be4_c (a : Int) (w : World) : Calls Tryz.prog 105 #[.int .u64 a, .int .i64 4] w fun e w' => e = .returned (.string (strOfNums (b4 a))) ∧ Below w.heap.size w w' := impl_bigEndian.calls 20 a 4 _ w (be4 a)
theorem be8_c (a : Int) (w : World) : Calls Tryz.prog 105 #[.int .u64 a, .int .i64 8] w fun e w' => e = .returned (.string (strOfNums (b8 a))) ∧ Below w.heap.size w w' := impl_bigEndian.calls 20 a 8 _ w (be8 a)

/-- the words' bytes -/
def outs (st : List Int) : Nat → List Int
  | 0 => []
  | n + 1 => outs st n ++ b4 (rd st n)
/-- what a hash sums to -/
def fin (kk : List Int) (p : List Int × List Int) (n : Nat) : List Int :=
  outs (Sh.feedL (C kk) (Sh.feedL (C kk) p (Sh.pad n)) (b8 ((n : Int) * 8))).1 8
theorem rep_ub : ∀ c : Nat, (Lib.repeatL (⟨#[0]⟩ : ByteArray).data.toList c).map (fun b => (b.toNat : Int)) = List.replicate c 0
  | 0 => rfl
  | c + 1 => by
    show _ :: _ = _
    rw [List.replicate_succ]
    congr 1
    exact rep_ub c
/-- zeros, as a text -/
def zs (c : Nat) : ByteArray := ⟨(Lib.repeatL (⟨#[0]⟩ : ByteArray).data.toList c).toArray⟩
theorem sb_zs (c : Nat) : sb (zs c) = List.replicate c 0 := rep_ub c
theorem zs_size (c : Nat) : (zs c).size = c := by rw [← sb_len, sb_zs, List.length_replicate]
theorem zs_c (c : Nat) (hc : c ≤ 140737488355328) (w : World) : Calls Tryz.prog 156 #[.string ⟨#[0]⟩, .int .i64 c] w fun e w' => e = .returned (.string (zs c)) ∧ Below w.heap.size w w' :=
  Tryz.strings_Repeat ⟨#[0]⟩ c w (by omega) (by show 1 * c ≤ _; omega)
theorem rd_8 (st : List Int) (k : Nat) (h : k < 8) : rd [rd st 0, rd st 1, rd st 2, rd st 3, rd st 4, rd st 5, rd st 6, rd st 7] k = rd st k := by
  obtain rfl | rfl | rfl | rfl | rfl | rfl | rfl | rfl : k = 0 ∨ k = 1 ∨ k = 2 ∨ k = 3 ∨ k = 4 ∨ k = 5 ∨ k = 6 ∨ k = 7 := by omega
  all_goals rfl
theorem b4_mod (x : Int) : b4 (x % 18446744073709551616) = b4 x := by
  unfold b4
  rw [show x % 18446744073709551616 / 16777216 % 256 = x / 16777216 % 256 by omega, show x % 18446744073709551616 / 65536 % 256 = x / 65536 % 256 by omega, show x % 18446744073709551616 / 256 % 256 = x / 256 % 256 by omega, show x % 18446744073709551616 % 256 = x % 256 by omega]
theorem str_len4 (x : Int) : (strOfNums (b4 x)).size = 4 := by rw [← sb_len, sb_str (bytes_b4 x)]; rfl
theorem str_data (xs : List Int) : (strOfNums xs).data.toList = ub xs := by rw [str_ub]
theorem outs_len (st : List Int) : ∀ n, (outs st n).length = 4 * n
  | 0 => rfl
  | n + 1 => by rw [outs, List.length_append, outs_len st n]; rfl

theorem room (k : Nat) (h : k < 8) (st : List Int) (x : Int) : (ub (outs st k)).length + (strOfNums (b4 x)).size ≤ 140737488355328 := by rw [ub_len, outs_len, str_len4]; omega
set_option maxRecDepth 100000 in
set_option maxHeartbeats 4000000 in
theorem sum_c (kk : List Int) (hkk : kk.length = 64) (p : List Int × List Int) (n : Nat) (hn : n < 1152921504606846976) (g : Nat) (w : World) (hR : Rw kk w) (H : HS w g p n) :
    Calls Tryz.prog 137 #[.pointer (some ⟨g, 0, none⟩)] w fun e w' => e = .returned (.string (strOfNums (fin kk p n))) ∧ w.grownBy w' (some g) := by
  obtain ⟨m, hmd⟩ : ∃ m, n % 64 = m := ⟨_, rfl⟩
  obtain ⟨c, hcd⟩ : ∃ c, (119 - m) % 64 = c := ⟨_, rfl⟩
  have hm : (n : Int) % 64 = (m : Int) := by omega
  have hc : (119 - (m : Int)) % 64 = (c : Int) := by omega
  have hm2 : (m : Int) < 64 := by omega
  have hc2 : c < 64 := by omega
  have hpad : Sh.pad n = 128 :: List.replicate c 0 := by unfold Sh.pad; rw [hmd, hcd]
  have hmd' := Lib.hid hmd
  have hcd' := Lib.hid hcd
  clear hmd hcd
  have hne : 3 ≠ g := by obtain ⟨blk, hB, _⟩ := H; exact Rw_ne hR hkk hB
  have cz : w.cell? ⟨g, 73, none⟩ = some (.int .u64 n) := by obtain ⟨blk, hB, _⟩ := H; exact hB.csize
  have hH' := Lib.hid H
  have hR' := Lib.hid hR
  have hpad' := Lib.hid hpad
  clear H hR hpad
  go_enter Tryz.func137, Tryz.ntmps137
  have hcat : (9223372036854775807 < 1 + (zs c).size) = False := by rw [zs_size]; exact eq_false (by omega)
  have hcat2 : (9223372036854775807 < (⟨#[128]⟩ : ByteArray).size + (zs c).size) = False := hcat
  go_wp2_with (go_at_call 156; (with_reducible refine (zs_c c (by omega) _).mono ?_); rintro e w1 ⟨rfl, hb1⟩; have hb1' := Lib.hid hb1; clear hb1)
  go_at_call 148
  clear hcat hcat2
  have hs1 : sb ((⟨#[128]⟩ : ByteArray) ++ zs c) = Sh.pad n := by
    rw [sb_app, hpad'.out, sb_zs]; rfl
  have hz1 : ((⟨#[128]⟩ : ByteArray) ++ zs c).size = 1 + c := by rw [← sb_len, hs1, hpad'.out]; simp; omega
  refine (take_c kk hkk p n g _ (by rw [hz1]; unfold maxLen; omega) (by omega) (by rw [hz1]; omega) _ (Rw_kept hR'.out (gb_of hb1'.out) (by simp)) (hH'.out.kept (gb_of hb1'.out) (by simp))).mono ?_
  rintro e w2 ⟨rfl, hH2, hG2⟩
  rw [hs1, hz1] at hH2
  have hH2' := Lib.hid hH2
  have hG2' := Lib.hid hG2
  clear hs1 hz1 hH2 hG2
  go_wp2_with (go_at_call 105; (with_reducible refine (be8_c _ _).mono ?_); rintro e w3 ⟨rfl, hb3⟩; have hb3' := Lib.hid hb3; clear hb3)
  go_at_call 148
  have hs2 : sb (strOfNums (b8 (↑n * 8))) = b8 (↑n * 8) := sb_str (bytes_b8 _)
  have hz2 : (strOfNums (b8 (↑n * 8))).size = 8 := by rw [← sb_len, hs2]; rfl
  refine (take_c kk hkk _ _ g _ (by rw [hz2]; unfold maxLen; omega) (by omega) (by rw [hz2]; omega) _ (Rw_kept (Rw_kept (Rw_kept hR'.out (gb_of hb1'.out) (by simp)) hG2'.out (some_ne hne)) (gb_of hb3'.out) (by simp)) (hH2'.out.kept (gb_of hb3'.out) (by simp))).mono ?_
  rintro e w4 ⟨rfl, hH4, hG4⟩
  rw [hs2] at hH4
  obtain ⟨st, hst⟩ : ∃ st, st = (Sh.feedL (C kk) (Sh.feedL (C kk) p (Sh.pad n)) (b8 (↑n * 8))).1 := ⟨_, rfl⟩
  obtain ⟨blk, hB, hq1, hq2⟩ := hH4
  clear hq1 hq2
  rw [← hst] at hB
  have hst' := Lib.hid hst
  have x0 := hB.word (i := 0) (by omega)
  have x1 := hB.word (i := 1) (by omega)
  have x2 := hB.word (i := 2) (by omega)
  have x3 := hB.word (i := 3) (by omega)
  have x4 := hB.word (i := 4) (by omega)
  have x5 := hB.word (i := 5) (by omega)
  have x6 := hB.word (i := 6) (by omega)
  have x7 := hB.word (i := 7) (by omega)
  have hgl := hB.lt
  have hG4' := Lib.hid hG4
  clear hst hs2 hz2 hG4 hB
  go_wp2
  clear x0 x1 x2 x3 x4 x5 x6 x7
  generalize hA : (#[.int .u32 (rd st 0), .int .u32 (rd st 1), .int .u32 (rd st 2), .int .u32 (rd st 3), .int .u32 (rd st 4), .int .u32 (rd st 5), .int .u32 (rd st 6), .int .u32 (rd st 7)] : Array Value) = A
  have hA' := Lib.hid hA
  clear hA
  generalize strOfNums (b8 (↑n * 8)) = z1
  generalize (⟨#[128]⟩ : ByteArray) ++ zs c = z2
  generalize zs c = z3
  have hbd := bd_new w4
  have hbl : Below w4.heap.size w4 (w4.alloc (.cells #[.pointer none, .slice none 0 0] 160 (0, 0))) := (Below.refl _ _).alloc (Nat.le_refl _) _
  have hbd' := Lib.hid hbd
  have hbl' := Lib.hid hbl
  clear hbd hbl
  go_loopw [32] (fun i wr => ∃ k : Nat, k ≤ 8 ∧ i = .int .i64 k ∧ Bd wr w4.heap.size w4.heap.size (ub (outs st k)) ∧ Below w4.heap.size w4 wr) (fun i _ => (8 - intOf i).toNat)
  case atStart => exact ⟨0, by omega, rfl, hbd'.out, hbl'.out⟩
  case round =>
    clear hbd' hbl' hm hc hm2 hc2 hmd' hcd' hne cz hpad' hgl
    obtain ⟨k, hk, rfl, hD, hL⟩ := hrel
    have hsz := hL.size
    have hD' := Lib.hid hD
    have hL' := Lib.hid hL
    clear hD hL
    by_cases hlt : k < 8
    · have ix : ∀ W, (Instr.index 196 (.agg A) (.int .i64 k)).run Tryz.prog W = .ok (.int .u32 (rd st k)) W := by
        rw [← hA'.out, ← rd_8 st k hlt]
        exact idx_agg (T := 196) 8 Tryz.underlying196 [rd st 0, rd st 1, rd st 2, rd st 3, rd st 4, rd st 5, rd st 6, rd st 7] rfl k hlt k rfl
      go_wp2_with (first | (go_at_call 105; (with_reducible refine (be4_c _ _).mono ?_); rintro e w5 ⟨rfl, hb5⟩; have hb5' := Lib.hid hb5; clear hb5) | (go_at_call 132; refine (wstr_c w4.heap.size w4.heap.size (ub (outs st k)) _ _ (hD'.out.below hb5'.out) (room k hlt st _) (Nat.le_trans hsz hb5'.out.size)).mono ?_; rintro e w6 ⟨rfl, hD6, hb6, ho6⟩; have hD6' := Lib.hid hD6; have hb6' := Lib.hid hb6; clear hD6 hb6 ho6))
      go_roundw
      case rel =>
        refine ⟨k + 1, by omega, by go_num, ?_, (hL'.out.trans (hb5'.out.mono hsz)).trans hb6'.out⟩
        have h2 := hD6'.out
        rw [str_data, ← ub_app, wrap_u64, b4_mod] at h2
        exact h2
      case measure => simp [intOf]; omega
    · rw [show k = 8 by omega] at hD'
      go_wp2_with (go_at_call 127; refine (str_c w4.heap.size w4.heap.size (ub (outs st 8)) _ hD'.out hsz).mono ?_; rintro e w6 ⟨rfl, hD6, hb6, ho6⟩; have hb6' := Lib.hid hb6; clear hD6 hb6 ho6)
      go_ret
      refine ⟨?_, ?_⟩
      · show Ending.returned (.string ⟨(ub (outs st 8)).toArray⟩) = _
        rw [fin, ← hst'.out]; rfl
      · exact gb_trans (gb_trans (gb_trans (gb_trans (gb_weak (gb_of hb1'.out) _) hG2'.out) (gb_weak (gb_of hb3'.out) _)) hG4'.out) (gb_weak (gb_of (hL'.out.trans hb6'.out)) _)
end Go.Proofs.YtgdcafbdkidamaaGreatDoor.K4
end
section
namespace Go.Proofs.YtgdcafbdkidamaaGreatDoor.K5
open Go Go.RowKit Go.Shelf Go.Proofs.YtgdcafbdkidamaaGreatDoorW.PrintWords Go.Proofs.YtgdcafbdkidamaaGreatDoorW.PrintLast Go.Proofs.YtgdcafbdkidamaaGreatDoorW.PrintMore Go.Proofs.YtgdcafbdkidamaaGreatDoor.K0 Go.Proofs.YtgdcafbdkidamaaGreatDoor.K2 Go.Proofs.YtgdcafbdkidamaaGreatDoor.K3 Go.Proofs.YtgdcafbdkidamaaGreatDoor.K4 Go.Proofs.YtgdcafbdkidamaaGreatDoor.B
set_option linter.unusedVariables false
set_option linter.unusedSimpArgs false
def iv8 : List Int := [1779033703, 3144134277, 1013904242, 2773480762, 1359893119, 2600822924, 528734635, 1541459225]
set_option maxRecDepth 100000 in
set_option maxHeartbeats 4000000 in
theorem newHash_c (w : World) : Calls Tryz.prog 136 #[] w fun e w' => ∃ g, e = .returned (.pointer (some ⟨g, 0, none⟩)) ∧ g = w.heap.size ∧ HS w' g (iv8, []) (0 : Nat) ∧ Below w.heap.size w w' := by
  go_enter Tryz.func136, Tryz.ntmps136
  go_wp2
  exact bodyPost_ret (results_tmp rfl _ _ _) rfl ⟨w.heap.size, rfl, rfl, ⟨List.replicate 64 0, ⟨rfl, by simp, (heap_alloc_new w _).trans (by kernel_rfl)⟩, rfl, by decide⟩, (Below.refl _ w).alloc (Nat.le_refl _) _⟩

/-- texts in a block -/
def Ps (w : World) (b : Nat) (xs : List ByteArray) : Prop := ∃ t fr, w.heap[b]? = some (.cells (xs.map Value.string).toArray t fr)
theorem Ps.lt {w : World} {b : Nat} {xs : List ByteArray} (h : Ps w b xs) : b < w.heap.size := by obtain ⟨t, fr, e⟩ := h; exact (Array.getElem?_eq_some_iff.1 e).1
theorem Ps.cell {w : World} {b : Nat} {xs : List ByteArray} (h : Ps w b xs) {i : Nat} (hi : i < xs.length) : w.cell? ⟨b, i, none⟩ = some (.string xs[i]) := by
  obtain ⟨t, fr, e⟩ := h
  rw [cell_of_row w b i _ _ _ e]; simp [hi]
theorem Ps.kept {w w' : World} {b : Nat} {xs : List ByteArray} (h : Ps w b xs) {row : Option Nat} (hg : w.grownBy w' row) (hne : some b ≠ row) : Ps w' b xs := by
  have hl := h.lt
  obtain ⟨t, fr, e⟩ := h
  exact ⟨t, fr, (hg.block _ hl hne).trans e⟩
/-- how long the texts are together -/
def tot (xs : List ByteArray) : Nat := (xs.map ByteArray.size).sum
theorem tot_nil : tot [] = 0 := rfl
theorem tot_cons (x : ByteArray) (r : List ByteArray) : tot (x :: r) = x.size + tot r := by simp [tot]
theorem tot_app (a b : List ByteArray) : tot (a ++ b) = tot a + tot b := by simp [tot]
/-- all bytes of the texts -/
def sbs (xs : List ByteArray) : List Int := (xs.map sb).flatten
theorem sbs_app (a b : List ByteArray) : sbs (a ++ b) = sbs a ++ sbs b := by simp [sbs]
theorem sbs_one (a : ByteArray) : sbs [a] = sb a := by simp [sbs]
theorem take_step (xs : List ByteArray) (k : Nat) (h : k < xs.length) : xs.take (k + 1) = xs.take k ++ [xs[k]] := List.take_succ_eq_append_getElem h
theorem tot_take (xs : List ByteArray) (k : Nat) (h : k < xs.length) : tot (xs.take (k + 1)) = tot (xs.take k) + xs[k].size := by
  rw [take_step xs k h, tot_app, tot_cons, tot_nil]; rfl
theorem tot_le (xs : List ByteArray) (k : Nat) : tot (xs.take k) ≤ tot xs := by
  have := tot_app (xs.take k) (xs.drop k)
  rw [List.take_append_drop] at this; omega

theorem below_of {w w1 w2 : World} {g : Nat} (h : Below w.heap.size w w1) (hg : w1.grownBy w2 (some g)) (hle : w.heap.size ≤ g) : Below w.heap.size w w2 :=
  ⟨hg.os.trans h.os, hg.tape.trans h.tape, hg.output.trans h.output, Nat.le_trans h.size hg.size, fun k hk => (hg.block k (Nat.lt_of_lt_of_le hk h.size) (some_ne (by omega))).trans (h.block k hk)⟩
set_option maxRecDepth 100000 in
set_option maxHeartbeats 4000000 in
theorem feed_c (kk : List Int) (hkk : kk.length = 64) (p : List Int × List Int) (n : Nat) (g b : Nat) (xs : List ByteArray) (cap : Nat) (w : World) (hn : n + tot xs < 1152921504606846976) (hl : xs.length < 1000) (hR : Rw kk w) (H : HS w g p n) (hP : Ps w b xs) (hbg : b ≠ g) :
    Calls Tryz.prog 125 #[.iface 176 (.pointer (some ⟨g, 0, none⟩)), .slice (some ⟨b, 0, none⟩) xs.length cap] w fun e w' => e = .returned (.tuple #[]) ∧ HS w' g (Sh.feedL (C kk) p (sbs xs)) ((n + tot xs : Nat) : Int) ∧ w.grownBy w' (some g) := by
  have hm : ∀ k w, (method (k + 1) 176 (.pointer (some ⟨g, 0, none⟩)) "loop.example/s02095/impl.take").run Tryz.prog w = .ok (148, .pointer (some ⟨g, 0, none⟩)) w := fun _ _ => by kernel_rfl
  have hne : 3 ≠ g := by obtain ⟨blk, hB, _⟩ := H; exact Rw_ne hR hkk hB
  have hH' := Lib.hid H
  have hR' := Lib.hid hR
  have hP' := Lib.hid hP
  have hn' := Lib.hid hn
  clear H hR hP hn
  go_enter Tryz.func125, Tryz.ntmps125
  go_wp2
  go_loopw [8] (fun i wr => ∃ k : Nat, k ≤ xs.length ∧ i = .int .i64 k ∧ HS wr g (Sh.feedL (C kk) p (sbs (xs.take k))) ((n + tot (xs.take k) : Nat) : Int) ∧ w.grownBy wr (some g)) (fun i _ => xs.length - (intOf i).toNat)
  case atStart => exact ⟨0, by omega, rfl, hH'.out, gb_rf _ _⟩
  case round =>
    clear hH'
    obtain ⟨k, hk, rfl, hS, hG⟩ := hrel
    have hS' := Lib.hid hS
    have hG' := Lib.hid hG
    by_cases hlt : k < xs.length
    · have cx := (hP'.out.kept hG (some_ne hbg)).cell hlt
      have hx1 := tot_take xs k hlt
      have hx2 := tot_le xs (k + 1)
      have hn := hn'.out
      have hx3 : (xs[k]).size ≤ maxLen := by unfold maxLen; omega
      have hx4 : ((n + tot (xs.take k) : Nat) : Int) + (xs[k]).size < 18446744073709551616 := by omega
      generalize hx : xs[k] = x at *
      have hx' := Lib.hid hx
      have hx1' := Lib.hid hx1
      clear hS hG hn hx hx1 hx2
      go_wp2_with (go_at_call 148; refine (take_c kk hkk _ _ g x hx3 (by omega) hx4 _ (Rw_kept hR'.out hG'.out (some_ne hne)) hS'.out).mono ?_; rintro e w2 ⟨rfl, hS2, hG2⟩; have hS2' := Lib.hid hS2; have hG2' := Lib.hid hG2; clear hS2 hG2)
      go_roundw
      case rel =>
        refine ⟨k + 1, by omega, by go_num, ?_, gb_trans hG'.out hG2'.out⟩
        have h2 := hS2'.out
        rw [← Sh.feed_append] at h2
        have e1 : sbs (xs.take k) ++ sb x = sbs (xs.take (k + 1)) := by rw [take_step xs k hlt, sbs_app, sbs_one, hx'.out]
        have e2 : ((n + tot (xs.take k) : Nat) : Int) + x.size = ((n + tot (xs.take (k + 1)) : Nat) : Int) := by rw [hx1'.out]; omega
        rw [e1, e2] at h2
        exact h2
      case measure => simp [intOf]; omega
    · rw [List.take_of_length_le (by omega)] at hS
      have hS2' := Lib.hid hS
      clear hS hG
      go_wp2
      go_end0
      exact ⟨rfl, hS2'.out, hG'.out⟩

theorem below_alloc (w : World) (o : Obj) : Below w.heap.size w (w.alloc o) := (Below.refl _ _).alloc (Nat.le_refl _) _
theorem tot_one (s : ByteArray) : tot [s] = s.size := by simp [tot]
/-- a text's hash -/
def sha (kk : List Int) (xs : List ByteArray) : ByteArray := strOfNums (fin kk (Sh.feedL (C kk) (iv8, []) (sbs xs)) (tot xs))

set_option maxRecDepth 100000 in
set_option maxHeartbeats 4000000 in
theorem hashOf_c (kk : List Int) (hkk : kk.length = 64) (b : Nat) (xs : List ByteArray) (cap : Nat) (w : World) (hn : tot xs < 1152921504606846976) (hl : xs.length < 1000) (hR : Rw kk w) (hP : Ps w b xs) :
    Calls Tryz.prog 103 #[.slice (some ⟨b, 0, none⟩) xs.length cap] w fun e w' => e = .returned (.string (sha kk xs)) ∧ Below w.heap.size w w' := by
  have hb := hP.lt
  have hn' := Lib.hid hn
  have hR' := Lib.hid hR
  have hP' := Lib.hid hP
  clear hn hR hP
  go_enter Tryz.func103, Tryz.ntmps103
  go_wp2_with (go_at_call 136; refine (newHash_c _).mono ?_; rintro e w1 ⟨g, rfl, rfl, hS1, hb1⟩; have hS1' := Lib.hid hS1; have hb1' := Lib.hid hb1; clear hS1 hb1)
  go_at_call 125
  refine (feed_c kk hkk _ 0 _ b xs cap _ (by have := hn'.out; omega) hl (Rw_kept hR'.out (gb_of hb1'.out) (by simp)) hS1'.out (hP'.out.kept (gb_of hb1'.out) (by simp)) (by omega)).mono ?_
  rintro e w2 ⟨rfl, hS2, hG2⟩
  rw [Nat.zero_add] at hS2
  have hR2 := Lib.hid (Rw_kept (Rw_kept hR'.out (gb_of hb1'.out) (by simp)) hG2 (some_ne (by have := hR'.out; obtain ⟨t, fr, e⟩ := this; have := (Array.getElem?_eq_some_iff.1 e).1; omega)))
  have hS2' := Lib.hid hS2
  have hG2' := Lib.hid hG2
  clear hS2 hG2
  go_wp2_with (go_at_call 137; refine (sum_c kk hkk _ _ hn'.out _ _ hR2.out hS2'.out).mono ?_; rintro e w3 ⟨rfl, hG3⟩; have hG3' := Lib.hid hG3; clear hG3)
  go_ret
  exact ⟨rfl, below_of hb1'.out (gb_trans hG2'.out hG3'.out) (Nat.le_refl _)⟩

set_option maxRecDepth 100000 in
set_option maxHeartbeats 4000000 in
theorem sha_c (kk : List Int) (hkk : kk.length = 64) (s : ByteArray) (w : World) (hn : s.size < 1152921504606846976) (hR : Rw kk w) :
    Calls Tryz.prog 95 #[.string s] w fun e w' => e = .returned (.string (sha kk [s])) ∧ Below w.heap.size w w' := by
  have hn' := Lib.hid hn
  have hR' := Lib.hid hR
  clear hn hR
  go_enter Tryz.func95, Tryz.ntmps95
  have hb1' := Lib.hid (below_alloc w (.cells #[.string s] 9 (0, 0)))
  go_wp2_with (go_at_call 103; refine (hashOf_c kk hkk w.heap.size [s] 1 _ (by rw [tot_one]; exact hn'.out) (by simp) (Rw_kept hR'.out (gb_of hb1'.out) (by simp)) ⟨_, _, heap_alloc_new w _⟩).mono ?_; rintro e w2 ⟨rfl, hb2⟩; have hb2' := Lib.hid hb2; clear hb2)
  go_ret
  exact ⟨rfl, hb1'.out.trans (hb2'.out.mono (by simp))⟩
end Go.Proofs.YtgdcafbdkidamaaGreatDoor.K5
end
