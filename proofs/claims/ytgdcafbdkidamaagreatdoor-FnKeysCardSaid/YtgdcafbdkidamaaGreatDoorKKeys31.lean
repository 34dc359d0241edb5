/- What the proof of FnKeys leans on, part 31: cut out of the texts of this claim's making by a program (wip/tools/pack.py). -/
import Derived.Test.YtgdcafbdkidamaaGreatDoorKKeys18
import Derived.Test.YtgdcafbdkidamaaGreatDoorKKeys19
import Derived.Test.YtgdcafbdkidamaaGreatDoorKKeys20
import Derived.Test.YtgdcafbdkidamaaGreatDoorKKeys30
import Derived.Lib.Hide
import Derived.LoopTactic
section
namespace Go.Proofs.YtgdcafbdkidamaaGreatDoor.T6
open Go Go.RowKit Go.Shelf Go.Proofs.YtgdcafbdkidamaaGreatDoorW.PrintWords Go.Proofs.YtgdcafbdkidamaaGreatDoorW.PrintLast Go.Proofs.YtgdcafbdkidamaaGreatDoorW.PrintMore Go.Proofs.YtgdcafbdkidamaaGreatDoor.K0 Go.Proofs.YtgdcafbdkidamaaGreatDoor.K2 Go.Proofs.YtgdcafbdkidamaaGreatDoor.K3 Go.Proofs.YtgdcafbdkidamaaGreatDoor.K4 Go.Proofs.YtgdcafbdkidamaaGreatDoor.K5 Go.Proofs.YtgdcafbdkidamaaGreatDoor.K9 Go.Proofs.YtgdcafbdkidamaaGreatDoor.S5 Go.Proofs.YtgdcafbdkidamaaGreatDoor.G2
set_option linter.unusedVariables false
set_option linter.unusedSimpArgs false
/-- a part -/
inductive Part where
  | sized (s : ByteArray)
  | bare (s : ByteArray)
def Part.val : Part → Value
  | .sized s => .iface 118 (.string s)
  | .bare s => .iface 128 (.string s)
def Part.txt : Part → ByteArray
  | .sized s => szd s
  | .bare s => s
def Part.ok : Part → Prop
  | .sized s => s.size < 274877906944
  | .bare s => s.size < 274877906944
theorem szd_data (s : ByteArray) : (szd s).data.toList = (strOfNums (b2 (s.size : Int))).data.toList ++ s.data.toList := by
  show ((strOfNums (sz2 s.size)) ++ s).data.toList = _
  rw [ByteArray.data_append, Array.toList_append]
  rfl
set_option maxRecDepth 100000 in
set_option maxHeartbeats 4000000 in
theorem sizedw_c (B b : Nat) (l : List UInt8) (s : ByteArray) (w : World) (h : Bd w B b l) (hs : s.size < 274877906944) (hlen : l.length + (szd s).size ≤ 140737488355328) (hB : B ≤ w.heap.size) :
    Calls Tryz.prog 207 #[.string s, .pointer (some ⟨b, 0, none⟩)] w fun e w' => e = .returned (.tuple #[]) ∧ Bd w' B b (l ++ (szd s).data.toList) ∧ Below B w w' := by
  have h' := Lib.hid h
  have hz : (strOfNums (b2 (s.size : Int))).size = 2 := rfl
  have hz' : (strOfNums (b2 (s.size : Int))).data.toList.length = 2 := rfl
  have hw64 : IntKind.u64.wrap (s.size : Int) = s.size := by rw [IntKind.wrap]; simp [IntKind.bits]; omega
  have hs2 : (s.size : Int) < 274877906944 := by omega
  have hq := szd_data s
  rw [szd_size] at hlen
  have hq' := Lib.hid hq
  have hz1 := Lib.hid hz
  have hz2 := Lib.hid hz'
  have hl' := Lib.hid hlen
  clear h hq hz hz' hlen
  go_enter Tryz.func207, Tryz.ntmps207
  go_wp2_with (go_at_call 105; refine (be2_c _ _).mono ?_; rintro e w1 ⟨rfl, hb1⟩; have hb1' := Lib.hid hb1; clear hb1)
  go_at_call 132
  refine (wstr_c B b l (strOfNums (b2 (s.size : Int))) _ (h'.out.below hb1'.out) (by have := hz1.out; have := hl'.out; omega) (Nat.le_trans hB hb1'.out.size)).mono ?_
  rintro e w2 ⟨rfl, hD2, hb2, ho2⟩
  have hD2' := Lib.hid hD2
  have hb2' := Lib.hid ((hb1'.out.mono hB).trans hb2)
  clear hD2 hb2 ho2
  have hwc := Lib.hid (wstr_c B b _ s _ hD2'.out (by rw [List.length_append, hz2.out]; have := hl'.out; omega) (Nat.le_trans hB hb2'.out.size))
  go_wp2_with (go_at_call 132; (with_reducible refine hwc.out.mono ?_); rintro e w3 ⟨rfl, hD3, hb3, ho3⟩; have hD3' := Lib.hid hD3; have hb3' := Lib.hid hb3; clear hD3 hb3 ho3)
  go_end0
  refine ⟨rfl, ?_, hb2'.out.trans hb3'.out⟩
  rw [hq'.out, ← List.append_assoc]
  exact hD3'.out
set_option maxRecDepth 100000 in
set_option maxHeartbeats 4000000 in
theorem barew_c (B b : Nat) (l : List UInt8) (s : ByteArray) (w : World) (h : Bd w B b l) (hlen : l.length + s.size ≤ 140737488355328) (hB : B ≤ w.heap.size) :
    Calls Tryz.prog 208 #[.string s, .pointer (some ⟨b, 0, none⟩)] w fun e w' => e = .returned (.tuple #[]) ∧ Bd w' B b (l ++ s.data.toList) ∧ Below B w w' := by
  have hwc := Lib.hid (wstr_c B b l s w h hlen hB)
  clear h hlen hB
  go_enter Tryz.func208, Tryz.ntmps208
  go_wp2_with (go_at_call 132; (with_reducible refine hwc.out.mono ?_); rintro e w3 ⟨rfl, hD3, hb3, ho3⟩; have hD3' := Lib.hid hD3; have hb3' := Lib.hid hb3; clear hD3 hb3 ho3)
  go_end0
  exact ⟨rfl, hD3'.out, hb3'.out⟩
/-- how long the parts are together; all their bytes -/
def ttot (xs : List Part) : Nat := (xs.map fun p => p.txt.size).sum
def tbs (xs : List Part) : List UInt8 := (xs.map fun p => p.txt.data.toList).flatten
def ttx (xs : List Part) : ByteArray := ⟨(tbs xs).toArray⟩
theorem tbs_len (xs : List Part) : (tbs xs).length = ttot xs := by
  unfold tbs ttot
  rw [List.length_flatten, List.map_map]
  rfl
theorem tbs_app (a b : List Part) : tbs (a ++ b) = tbs a ++ tbs b := by simp [tbs]
theorem tbs_one (p : Part) : tbs [p] = p.txt.data.toList := by simp [tbs]
theorem ttot_app (a b : List Part) : ttot (a ++ b) = ttot a + ttot b := by simp [ttot]
theorem ttot_one (p : Part) : ttot [p] = p.txt.size := by simp [ttot]
theorem tstep (xs : List Part) (k : Nat) (h : k < xs.length) : xs.take (k + 1) = xs.take k ++ [xs[k]] := List.take_succ_eq_append_getElem h
theorem ttot_le (xs : List Part) (k : Nat) : ttot (xs.take k) ≤ ttot xs := by
  have := ttot_app (xs.take k) (xs.drop k)
  rw [List.take_append_drop] at this; omega
/-- parts in a block -/
def Pp (w : World) (b : Nat) (xs : List Part) : Prop := ∃ t fr, w.heap[b]? = some (.cells (xs.map Part.val).toArray t fr)
theorem Pp.lt {w : World} {b : Nat} {xs : List Part} (h : Pp w b xs) : b < w.heap.size := by obtain ⟨t, fr, e⟩ := h; exact (Array.getElem?_eq_some_iff.1 e).1
theorem Pp.cell {w : World} {b : Nat} {xs : List Part} (h : Pp w b xs) {i : Nat} (hi : i < xs.length) : w.cell? ⟨b, i, none⟩ = some xs[i].val := by
  obtain ⟨t, fr, e⟩ := h
  rw [cell_of_row w b i _ _ _ e]; simp [hi]
theorem Pp.below {w w' : World} {b : Nat} {xs : List Part} (h : Pp w b xs) (hb : Below w.heap.size w w') : Pp w' b xs := by
  have hl := h.lt
  obtain ⟨t, fr, e⟩ := h
  exact ⟨t, fr, (hb.block _ hl).trans e⟩
set_option maxRecDepth 100000 in
set_option maxHeartbeats 8000000 in
theorem transcript_c (b : Nat) (xs : List Part) (cap : Nat) (w : World) (hn : ttot xs < 70368744177664) (hl : xs.length < 1000) (hok : ∀ p ∈ xs, p.ok) (hP : Pp w b xs) :
    Calls Tryz.prog 82 #[.slice (some ⟨b, 0, none⟩) xs.length cap] w fun e w' => e = .returned (.string (ttx xs)) ∧ Below w.heap.size w w' := by
  have hm1 : ∀ k w s, (method (k + 1) 118 (.string s) "loop.example/s02095/impl.write").run Tryz.prog w = .ok (207, .string s) w := fun _ _ _ => by kernel_rfl
  have hm2 : ∀ k w s, (method (k + 1) 128 (.string s) "loop.example/s02095/impl.write").run Tryz.prog w = .ok (208, .string s) w := fun _ _ _ => by kernel_rfl
  have hbl := hP.lt
  have hP' := Lib.hid hP
  have hn' := Lib.hid hn
  have hok' := Lib.hid hok
  have hD0 := Lib.hid (bd_new w)
  clear hP hn hok
  go_enter Tryz.func82, Tryz.ntmps82
  go_wp2
  go_loopw [8] (fun i wr => ∃ k : Nat, k ≤ xs.length ∧ i = .int .i64 k ∧ Bd wr w.heap.size w.heap.size (tbs (xs.take k)) ∧ Below w.heap.size w wr) (fun i _ => xs.length - (intOf i).toNat)
  case atStart => exact ⟨0, by omega, rfl, hD0.out, (Below.refl _ w).alloc (Nat.le_refl _) _⟩
  case round =>
    clear hD0
    obtain ⟨k, hk, rfl, hD, hb⟩ := hrel
    have hD' := Lib.hid hD
    have hb' := Lib.hid hb
    have hws := hb.size
    by_cases hlt : k < xs.length
    · have cx := (hP'.out.below hb).cell hlt
      have hx1 := tstep xs k hlt
      have hx2 := ttot_le xs (k + 1)
      have hx3 : ttot (xs.take (k + 1)) = ttot (xs.take k) + xs[k].txt.size := by rw [hx1, ttot_app, ttot_one]
      have hx4 : tbs (xs.take (k + 1)) = tbs (xs.take k) ++ xs[k].txt.data.toList := by rw [hx1, tbs_app, tbs_one]
      have hxo := hok'.out xs[k] (List.getElem_mem hlt)
      have hroom : (tbs (xs.take k)).length + xs[k].txt.size ≤ 140737488355328 := by rw [tbs_len]; have := hn'.out; omega
      generalize xs[k] = x at *
      have hx4' := Lib.hid hx4
      clear hx1 hx2 hx3 hx4 hb hD
      cases x with
      | sized s =>
        have hwc := Lib.hid (sizedw_c w.heap.size w.heap.size _ s wr hD'.out hxo hroom hws)
        clear hxo hroom
        dsimp only [Part.val] at cx
        go_wp2_with (go_at_call 207; (with_reducible refine hwc.out.mono ?_); rintro e w2 ⟨rfl, hD2, hb2⟩; have hD2' := Lib.hid hD2; have hb2' := Lib.hid hb2; clear hD2 hb2)
        go_roundw
        case rel => exact ⟨k + 1, by omega, by go_num, by rw [hx4'.out]; exact hD2'.out, hb'.out.trans hb2'.out⟩
        case measure => simp [intOf]; omega
      | bare s =>
        have hwc := Lib.hid (barew_c w.heap.size w.heap.size _ s wr hD'.out hroom hws)
        clear hxo hroom
        dsimp only [Part.val] at cx
        go_wp2_with (go_at_call 208; (with_reducible refine hwc.out.mono ?_); rintro e w2 ⟨rfl, hD2, hb2⟩; have hD2' := Lib.hid hD2; have hb2' := Lib.hid hb2; clear hD2 hb2)
        go_roundw
        case rel => exact ⟨k + 1, by omega, by go_num, by rw [hx4'.out]; exact hD2'.out, hb'.out.trans hb2'.out⟩
        case measure => simp [intOf]; omega
    · rw [List.take_of_length_le (by omega)] at hD
      have hstr := Lib.hid (str_c w.heap.size w.heap.size _ wr hD hws)
      clear hD hb
      go_wp2_with (go_at_call 127; (with_reducible refine hstr.out.mono ?_); rintro e w3 ⟨rfl, hD4, hb6, ho6⟩; have hb6' := Lib.hid hb6; clear hD4 hb6 ho6)
      go_ret
      exact ⟨rfl, hb'.out.trans hb6'.out⟩
end Go.Proofs.YtgdcafbdkidamaaGreatDoor.T6
end
