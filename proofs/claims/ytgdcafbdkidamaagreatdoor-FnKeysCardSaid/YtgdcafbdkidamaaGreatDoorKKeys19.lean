/- What the proof of FnKeys leans on, part 19: cut out of the texts of this claim's making by a program (wip/tools/pack.py). -/
import Derived.Test.YtgdcafbdkidamaaGreatDoorKKeys10
import Derived.Test.YtgdcafbdkidamaaGreatDoorKKeys13
import Derived.Test.YtgdcafbdkidamaaGreatDoorKKeys18
import Derived.Deep.AppendLies
import Derived.Deep.RegionHeld3
import Derived.Laws.Tables
import Derived.Lib.ConvBytes
import Derived.Lib.FrozenHead2
import Derived.Lib.Hide
import Derived.LoopTactic
import Derived.Outline
import Derived.StillTailTactics
import Derived.WalkSpells
section
namespace Go.Proofs.YtgdcafbdkidamaaGreatDoor.Kp
open Go Go.RowKit Go.Shelf Go.Proofs.YtgdcafbdkidamaaGreatDoorW.PrintWords Go.Proofs.YtgdcafbdkidamaaGreatDoorW.PrintLast Go.Proofs.YtgdcafbdkidamaaGreatDoorW.PrintMore Go.Proofs.YtgdcafbdkidamaaGreatDoor.K0 Go.Proofs.YtgdcafbdkidamaaGreatDoor.K2 Go.Proofs.YtgdcafbdkidamaaGreatDoor.K3 Go.Proofs.YtgdcafbdkidamaaGreatDoor.K4 Go.Proofs.YtgdcafbdkidamaaGreatDoor.K5 Go.Proofs.YtgdcafbdkidamaaGreatDoor.B
set_option linter.unusedVariables false
set_option linter.unusedSimpArgs false
/-- a slice of bytes in a row of the call's own, whatever the row's mark, so none of the cells behind the elements is frozen -/
def OwnM (w : World) (B : Nat) (v : Value) (xs : List Int) : Prop :=
  ∃ g cap cur fz, v = .slice (some ⟨g, 0, none⟩) xs.length cap ∧ B ≤ g ∧ w.heap[g]? = some (.cells cur 5 fz) ∧ (∀ j, xs.length ≤ j → j < cap → ¬ (fz.1 ≤ j ∧ j < fz.2)) ∧ xs.length ≤ cap ∧ cap ≤ maxLen ∧ cur.size = cap ∧ cur.toList.take xs.length = c8 xs
theorem OwnM.below {w w' : World} {B : Nat} {v : Value} {xs : List Int} (h : OwnM w B v xs) (hb : Below w.heap.size w w') : OwnM w' B v xs := by
  obtain ⟨g, cap, cur, fz, h1, h2, h3, h4⟩ := h
  exact ⟨g, cap, cur, fz, h1, h2, (hb.block _ (Array.getElem?_eq_some_iff.1 h3).1).trans h3, h4⟩
theorem OwnM.cells {w : World} {B : Nat} {v : Value} {xs : List Int} (h : OwnM w B v xs) : ∃ g cap, v = .slice (some ⟨g, 0, none⟩) xs.length cap ∧ xs.length ≤ cap ∧ xs.length ≤ maxLen ∧ ∀ j, j < xs.length → w.cell? ⟨g, j, none⟩ = some (.int .u8 (rd xs j)) := by
  obtain ⟨g, cap, cur, fz, h1, h2, h3, h4, h5, h6, h7, h8⟩ := h
  refine ⟨g, cap, h1, h5, Nat.le_trans h5 h6, fun j hj => ?_⟩
  rw [cell_of_row w g j _ _ _ h3, ← Array.getElem?_toList]
  have e : (cur.toList.take xs.length)[j]? = cur.toList[j]? := by rw [List.getElem?_take, if_pos hj]
  rw [← e, h8, c8_get hj]
/-- .. read as the print reads it -/
theorem OwnM.read {w : World} {B : Nat} {v : Value} {xs : List Int} (h : OwnM w B v xs) : ∃ A c, v = .slice A xs.length c ∧ xs.length ≤ c ∧ (Kd.int .u8).C w A xs.length xs := by
  obtain ⟨g, cap, h1, h5, h6, hc⟩ := h.cells
  refine ⟨_, cap, h1, h5, ⟨rfl, by unfold maxLen at h6; omega, fun _ => ⟨⟨g, 0, none⟩, rfl, fun j p hj => ⟨[.int .u8 p], rfl, rfl, fun i u hu => ?_⟩⟩⟩⟩
  obtain ⟨hjl, hp⟩ := List.getElem?_eq_some_iff.1 hj
  cases i with
  | zero =>
    simp only [List.getElem?_cons_zero, Option.some.injEq] at hu
    subst hu
    have e : rd xs j = p := by unfold rd; simp [List.getD_eq_getElem?_getD, hjl, hp]
    rw [show j * (Kd.int .u8).sz + 0 = j from by show j * 1 + 0 = j; omega, add_plain, hc j hjl, e]
  | succ i => simp at hu

theorem run_append1 (w : World) (B : Nat) (ty : TypeId) (v : Value) (xs : List Int) (h : OwnM w B v xs) (a : Addr) (c : Nat) (x : Int) (hx : w.cell? a = some (.int .u8 x)) (hn : xs.length < 1152921504606846976 / 8192) (hB : B ≤ w.heap.size) :
    ∃ v' w', (Builtin.append_ #[46, 46] ty #[v, .slice (some a) 1 c]).run Tryz.prog w = .ok v' w' ∧ OwnM w' B v' (xs ++ [x]) ∧ Below B w w' := by
  obtain ⟨g, cap, cur, fz, rfl, hg, h3, h4, h5, h6, h7, h8⟩ := h
  have ht := Tryz.underlying46
  obtain ⟨i, hi, hz0, hz1, hz2⟩ := info_parts (show (Tryz.prog.info? 5).map (fun i => (i.zero, i.size, i.bytes)) = some (some (.int .u8 0), 1, 1) by kernel_rfl)
  have hnews : ∀ (j : Nat) (u : Value), ([Value.int .u8 x] : List Value)[j]? = some u → w.cell? (a.add j) = some u := by
    intro j u hu
    cases j with
    | zero => simp only [List.getElem?_cons_zero, Option.some.injEq] at hu; subst hu; rw [Addr.add_zero']; exact hx
    | succ j => simp at hu
  by_cases hroom : xs.length + 1 ≤ cap
  · have hf := run_firstCells_some (P := Tryz.prog) w i.size 1 a 1 c [.int .u8 x] (by simp [hz1]) hnews
    rw [hz1] at hf
    have hcell : w.cell? ⟨g, xs.length, none⟩ = some cur[xs.length] := by
      have hlt : xs.length < cur.size := by omega
      simp [World.cell?, h3, hlt]
    have hfro : w.frozen? ⟨g, xs.length, none⟩ = false := by
      have := h4 xs.length (Nat.le_refl _) (by omega)
      simp only [World.frozen?, h3, Bool.and_eq_false_iff, decide_eq_false_iff_not]
      rcases Nat.lt_or_ge xs.length fz.1 with h | h
      · left; omega
      · right; intro h'; exact this ⟨h, h'⟩
    have hst : (storeCells ⟨g, xs.length, none⟩ [Value.int .u8 x] 0).run Tryz.prog w = .ok () (w.setCell ⟨g, xs.length, none⟩ (.int .u8 x)) := by
      simp only [storeCells, Sem.run_bind, Addr.add_zero', run_store Tryz.prog w _ (.int .u8 x) _ rfl, hcell]
      simp [hfro]
    refine ⟨.slice (some ⟨g, 0, none⟩) (xs.length + 1) cap, w.setCell ⟨g, xs.length, none⟩ (.int .u8 x), ?_, ⟨g, cap, cur.setIfInBounds xs.length (.int .u8 x), fz, by simp, hg, ?_, ?_, by simp; omega, h6, by simp [h7], ?_⟩, (Below.refl _ _).setCell hg _⟩
    · simp [Builtin.append_, run_underlying ht, sizeOf, typeInfo, hi, hz1, Builtin.lenOf, hroom, hf, Addr.add_lit, hst]
    · have := setCell_eq_setRow w g xs.length cur 5 fz (.int .u8 x) h3
      rw [this]
      exact setRow_heap w g _ _ _ _ h3
    · intro j hj hj'
      rw [List.length_append, List.length_singleton] at hj
      exact h4 j (by omega) hj'
    · have hlc : cur.toList.length = cap := Array.length_toList.trans h7
      have hlt : xs.length < cur.toList.length := by omega
      rw [Array.toList_setIfInBounds, List.length_append, List.length_singleton, List.take_succ_eq_append_getElem (by rw [List.length_set]; exact hlt), List.take_set_of_le (Nat.le_refl _), h8, List.getElem_set_self, c8_app]
      rfl
  · have holds : ∀ (j : Nat) (u : Value), (c8 xs)[j]? = some u → w.cell? ((⟨g, 0, none⟩ : Addr).add j) = some u := by
      intro j u hu
      rw [add_plain, cell_of_row w g j _ _ _ h3, ← Array.getElem?_toList]
      rw [← h8, List.getElem?_take] at hu
      split at hu
      · exact hu
      · cases hu
    have hr := run_append_grow (P := Tryz.prog) w 46 ty 5 i (.int .u8 0) ht hi hz0 ⟨g, 0, none⟩ xs.length cap (c8 xs) (by rw [c8_len, hz1, Nat.mul_one]) holds a 1 c [.int .u8 x] (by simp [hz1]) hnews (by omega) (by omega) (growslice_fits (by omega) (by rw [hz2]; omega))
    have hge := grownCap_ge w (xs.length + 1) cap 5
    have hcm2 : grownCap w (xs.length + 1) cap 5 ≤ maxLen := grownCap_le_maxLen w (xs.length + 1) cap 5 (by unfold maxLen; omega)
    refine ⟨_, _, hr, ⟨w.heap.size, _, _, (0, 0), by simp, hB, heap_alloc_new w.drew _, fun j _ _ => by simp, by simpa using hge, hcm2, ?_, ?_⟩, ⟨rfl, rfl, rfl, by simp, fun k hk => heap_alloc_old w.drew _ (by show k < w.heap.size; omega)⟩⟩
    · simp only [Array.size_append, List.size_toArray, size_zeroCells, c8_len, List.length_singleton]
      show _ + 1 + _ * 1 = _
      omega
    · simp only [Array.toList_append, List.append_assoc]
      rw [← List.append_assoc, show c8 xs ++ [Value.int .u8 x] = c8 (xs ++ [x]) from by rw [c8_app]; rfl, List.take_left' (c8_len _)]
theorem wpList_append1 {w : World} {ops : Array Oper} {rest : List Oper} {o : Oper} {a : Act} {Q : Exit → Act → World → Prop} (hgd : o.guard = none) (s y : Operand)
    (ho : o.op = .call { callee := .builtin .append, args := #[s, y], argTypes := #[46, 46] }) (B : Nat) (v : Value) (xs : List Int) (hs : a.eval s = v) (h : OwnM w B v xs) (ad : Addr) (c : Nat) (x : Int)
    (hy : a.eval y = .slice (some ad) 1 c) (hx : w.cell? ad = some (.int .u8 x)) (hn : xs.length < 1152921504606846976 / 8192) (hB : B ≤ w.heap.size)
    (K : ∀ v' w', OwnM w' B v' (xs ++ [x]) → Below B w w' → wpList Tryz.prog ops Q rest (a.put o.dst v') w') : wpList Tryz.prog ops Q (o :: rest) a w := by
  refine wpList_plain hgd fun K' hK => ?_
  obtain ⟨v', w', hr, h2, h3⟩ := run_append1 w B o.type v xs h ad c x hx hn hB
  unfold Oper.wp execOp
  simp only [ho, resolve, invoke, builtin, Sem.run_bind, Sem.run_pure, Result.andThen_ok, List.map_toArray, List.map_cons, List.map_nil, hs, hy, hr]
  exact hK _ _ (K v' w' h2 h3)
/-- a text as bytes -/
theorem own_bytes (w : World) (s : ByteArray) (hs : s.size ≤ maxLen) : OwnM (Lib.bytesWorld w 5 s) w.heap.size (.slice (some ⟨w.heap.size, 0, none⟩) s.size (grownCap w s.size 0 5)) (sb s) := by
  have hge := grownCap_ge w s.size 0 5
  have hsz : (Lib.bytesCells w 5 s).size = grownCap w s.size 0 5 := by
    unfold Lib.bytesCells
    rw [Array.size_append, Array.size_map, Array.size_replicate]
    show s.size + _ = _
    omega
  refine ⟨w.heap.size, _, _, _, by rw [sb_len], Nat.le_refl _, Lib.bytesWorld_at_new w _ s, ?_, by rw [sb_len]; exact hge, grownCap_le_maxLen w s.size 0 5 hs, hsz, ?_⟩
  · intro j _ hj h
    rw [hsz] at h
    omega
  · unfold Lib.bytesCells
    rw [Array.toList_append, Array.toList_map, List.take_left' (by rw [List.length_map, sb_len]; rfl)]
    unfold c8 sb
    rw [List.map_map]
    rfl
theorem bytes_below (w : World) (s : ByteArray) : Below w.heap.size w (Lib.bytesWorld w 5 s) :=
  ⟨rfl, rfl, rfl, by rw [Lib.bytesWorld_size]; omega, fun k hk => Lib.bytesWorld_at_old w _ s k hk⟩
end Go.Proofs.YtgdcafbdkidamaaGreatDoor.Kp
end
section
namespace Go.Proofs.YtgdcafbdkidamaaGreatDoor.Kp
open Go Go.RowKit Go.Shelf Go.Proofs.YtgdcafbdkidamaaGreatDoorW.PrintWords Go.Proofs.YtgdcafbdkidamaaGreatDoorW.PrintLast Go.Proofs.YtgdcafbdkidamaaGreatDoorW.PrintMore Go.Proofs.YtgdcafbdkidamaaGreatDoor.K0 Go.Proofs.YtgdcafbdkidamaaGreatDoor.K2 Go.Proofs.YtgdcafbdkidamaaGreatDoor.K3 Go.Proofs.YtgdcafbdkidamaaGreatDoor.K4 Go.Proofs.YtgdcafbdkidamaaGreatDoor.K5 Go.Proofs.YtgdcafbdkidamaaGreatDoor.B
set_option linter.unusedVariables false
set_option linter.unusedSimpArgs false
/-- the padded text -/
def padL (s : ByteArray) : List Int := (sb s ++ Sh.pad s.size) ++ b8 ((s.size : Int) * 8)
def pz (s : ByteArray) (k : Nat) : List Int := sb s ++ (128 :: List.replicate k 0)
theorem pz_len (s : ByteArray) (k : Nat) : (pz s k).length = s.size + (1 + k) := by unfold pz; simp [sb_len]; omega
theorem pz_succ (s : ByteArray) (k : Nat) : pz s k ++ [0] = pz s (k + 1) := by unfold pz; rw [List.append_assoc, List.replicate_succ']; rfl
theorem newcell (w : World) (x : Value) : (w.alloc (.cells #[x] 5 (0, 0))).cell? ⟨w.heap.size, 0, none⟩ = some x := (cell_of_row _ _ 0 _ _ _ (heap_alloc_new w _)).trans rfl

set_option maxRecDepth 100000 in
set_option maxHeartbeats 4000000 in
theorem padded_c (s : ByteArray) (hs : s.size < 70368744177664) (w : World) :
    Calls Tryz.prog 134 #[.string s] w fun e w' => ∃ v, e = .returned v ∧ OwnM w' w.heap.size v (padL s) ∧ Below w.heap.size w w' := by
  obtain ⟨n, hn⟩ : ∃ n, n = s.size := ⟨_, rfl⟩
  obtain ⟨c, hcd⟩ : ∃ c, (119 - n % 64) % 64 = c := ⟨_, rfl⟩
  have hO0 := Lib.hid (own_bytes w s (by unfold maxLen; omega))
  have hb0 := Lib.hid (bytes_below w s)
  have hsz0 := Lib.hid (Lib.bytesWorld_size w 5 s)
  have hcv := Lib.run_convert_string_bytes (P := Tryz.prog) w 9 46 5 s Tryz.underlying9 Tryz.underlying46 Tryz.underlying5
  generalize Lib.bytesWorld w 5 s = w1 at *
  generalize grownCap w s.size 0 5 = cap0 at *
  have hn' := Lib.hid hn
  have hcd' := Lib.hid hcd
  clear hn hcd
  go_enter Tryz.func134, Tryz.ntmps134
  have hwv := hb0.out.size
  go_wp2_with (refine wpList_append1 rfl (.tmp 8) (.tmp 9) rfl w.heap.size _ _ rfl (hO0.out.below (below_alloc w1 _)) ⟨w1.heap.size, 0, none⟩ 1 128 rfl (newcell w1 _) (by rw [sb_len]; omega) (by simp; omega) ?_; intro v2 w2 hO2 hb2; have hO2' := Lib.hid hO2; have hb2' := Lib.hid hb2; clear hO2 hb2)
  clear hcv
  go_loopw [3] (fun v wr => ∃ k : Nat, k ≤ c ∧ OwnM wr w.heap.size v (pz s k) ∧ Below w.heap.size w wr) (fun v _ => match v with | .slice _ l _ => n + 1 + c - l | _ => 0)
  case atStart => exact ⟨0, by omega, hO2'.out, (hb0.out.trans ((below_alloc w1 _).mono hwv)).trans hb2'.out⟩
  case round =>
    clear hO2' hb2' hO0 hb0 hsz0
    obtain ⟨k, hk, hO, hb⟩ := hrel
    have hO' := Lib.hid hO
    have hb' := Lib.hid hb
    have hwv2 := hb.size
    obtain ⟨g, cap, rfl, hc1, hc2, hc3⟩ := hO.cells
    have hpl := pz_len s k
    rw [← hn'.out] at hpl
    clear hO hb hc3
    generalize hL : (pz s k).length = L at *
    have hL' := Lib.hid hL
    have hcd := hcd'.out
    have hm0 : (0 : Int) ≤ (L : Int) := by omega
    clear hL
    unfold maxLen at hc2
    have hnn := hn'.out
    have hLb : L < 70368744187664 := by omega
    by_cases hlt : k < c
    · have hq : ((L : Int) % 64 != 56) = true := by rw [bne_iff_ne]; omega
      have hnl : (pz s k).length < 1152921504606846976 / 8192 := by rw [hL'.out]; omega
      have hnl' := Lib.hid hnl
      have hpl' := Lib.hid hpl
      clear hnl hcd hpl hnn
      go_wp2_with (refine wpList_append1 rfl (.tmp 15) (.tmp 16) rfl w.heap.size _ _ rfl (hO'.out.below (below_alloc wr _)) ⟨wr.heap.size, 0, none⟩ 1 0 rfl (newcell wr _) hnl'.out (by simp; omega) ?_; intro v3 w3 hO3 hb3; have hO3' := Lib.hid hO3; have hb3' := Lib.hid hb3; clear hO3 hb3)
      go_roundw
      case rel =>
        have h3 := hO3'.out
        rw [pz_succ] at h3
        exact ⟨k + 1, by omega, h3, (hb'.out.trans ((below_alloc wr _).mono hwv2)).trans hb3'.out⟩
      case measure =>
        obtain ⟨g3, cap3, rfl, _⟩ := hO3'.out.cells
        simp only [List.length_append, List.length_singleton, hL'.out]
        have := hpl'.out
        omega
    · have hq : ((L : Int) % 64 != 56) = false := by rw [bne_eq_false_iff_eq]; omega
      have hpl' := Lib.hid hpl
      have hkc := Lib.hid (show k = c by omega)
      clear hcd hpl hnn
      go_wp2_with fail
      have hcL := hkc.out
      subst hcL
      clear hlt hq
      generalize hX : (s.size : Int) * 8 = X
      have hX' := Lib.hid hX
      clear hX
      go_loopw [3, 5] (fun v i wr => ∃ j : Nat, j ≤ 8 ∧ i = .int .i64 (7 - j) ∧ OwnM wr w.heap.size v (pz s k ++ (b8 X).take j) ∧ Below w.heap.size w wr) (fun _ i _ => (intOf i + 1).toNat)
      case atStart => exact ⟨0, by omega, rfl, by simpa using hO'.out, hb'.out⟩
      case round =>
        clear hO' hb'
        obtain ⟨j, hj, rfl, hO, hb⟩ := hrel
        have hO' := Lib.hid hO
        have hb' := Lib.hid hb
        have hwv3 := hb.size
        obtain ⟨g2, cap2, rfl, hc4, hc5, hc6⟩ := hO.cells
        clear hO hb hc6 hc4 hc5
        have hlen : (pz s k ++ (b8 X).take j).length = L + j := by rw [List.length_append, hL'.out, List.length_take]; show L + min j 8 = _; omega
        have hlen' := Lib.hid hlen
        have hnl : (pz s k ++ (b8 X).take j).length < 1152921504606846976 / 8192 := by rw [hlen]; omega
        have hnl' := Lib.hid hnl
        clear hlen hnl
        generalize hM : (pz s k ++ (b8 X).take j).length = M at *
        have hM' := Lib.hid hM
        clear hM
        by_cases hlt : j < 8
        · obtain rfl | rfl | rfl | rfl | rfl | rfl | rfl | rfl : j = 0 ∨ j = 1 ∨ j = 2 ∨ j = 3 ∨ j = 4 ∨ j = 5 ∨ j = 6 ∨ j = 7 := by omega
          all_goals
            go_wp2_with (refine wpList_append1 rfl (.tmp 26) (.tmp 33) rfl w.heap.size _ _ rfl (hO'.out.below (below_alloc wr _)) ⟨wr.heap.size, 0, none⟩ 1 _ rfl (newcell wr _) (by rw [hM'.out]; exact hnl'.out) (by simp; omega) ?_; intro v3 w3 hO3 hb3; have hO3' := Lib.hid hO3; have hb3' := Lib.hid hb3; clear hO3 hb3)
            go_roundw
            case rel =>
              have h3 := hO3'.out
              rw [List.append_assoc] at h3
              have h4 := (hb'.out.trans ((below_alloc wr _).mono hwv3)).trans hb3'.out
              first | exact ⟨1, by decide, rfl, h3, h4⟩ | exact ⟨2, by decide, rfl, h3, h4⟩ | exact ⟨3, by decide, rfl, h3, h4⟩ | exact ⟨4, by decide, rfl, h3, h4⟩ | exact ⟨5, by decide, rfl, h3, h4⟩ | exact ⟨6, by decide, rfl, h3, h4⟩ | exact ⟨7, by decide, rfl, h3, h4⟩ | exact ⟨8, by decide, rfl, h3, h4⟩
            case measure => simp [intOf]
        · obtain rfl : j = 8 := by omega
          go_wp2_with fail
          go_ret
          refine ⟨_, rfl, ?_, hb'.out⟩
          have h3 := hO'.out
          rw [show (b8 X).take 8 = b8 X from rfl] at h3
          unfold padL
          have e1 : sb s ++ Sh.pad s.size = pz s k := by unfold Sh.pad pz; rw [← hn'.out, hcd'.out]
          rw [e1, hX'.out]
          exact h3
end Go.Proofs.YtgdcafbdkidamaaGreatDoor.Kp
end
section
namespace Go.Proofs.YtgdcafbdkidamaaGreatDoor.Ks
open Go Go.RowKit Go.Shelf Go.Proofs.YtgdcafbdkidamaaGreatDoorW.PrintWords Go.Proofs.YtgdcafbdkidamaaGreatDoorW.PrintLast Go.Proofs.YtgdcafbdkidamaaGreatDoorW.PrintMore Go.Proofs.YtgdcafbdkidamaaGreatDoor.K0 Go.Proofs.YtgdcafbdkidamaaGreatDoor.K2 Go.Proofs.YtgdcafbdkidamaaGreatDoor.K3 Go.Proofs.YtgdcafbdkidamaaGreatDoor.K4 Go.Proofs.YtgdcafbdkidamaaGreatDoor.K5 Go.Proofs.YtgdcafbdkidamaaGreatDoor.Kp Go.Proofs.YtgdcafbdkidamaaGreatDoor.B
set_option linter.unusedVariables false
set_option linter.unusedSimpArgs false
/-- the constants -/
def kk : List Int := (spec_l1K.f).getD []
set_option maxRecDepth 100000 in
theorem kk_len : kk.length = 64 := by decide
theorem kk_eq : spec_l1K.f = some kk := rfl
/-- a slice of words that is read -/
def Rd32 (w : World) (v : Value) (n : Nat) (xs : List Int) : Prop := xs.length = n ∧ ∃ A c, v = .slice A n c ∧ n ≤ c ∧ (Kd.int .u32).C w A n xs
theorem Rd32.below {w w' : World} {v : Value} {n : Nat} {xs : List Int} (h : Rd32 w v n xs) (hb : Below w.heap.size w w') : Rd32 w' v n xs := by
  obtain ⟨h0, A, c, h1, h2, h3⟩ := h
  exact ⟨h0, A, c, h1, h2, Kd.C_below h3 hb⟩
theorem rd_of_R {w : World} {e base : Nat} {ok : Nat → Prop} {v : Value} {xs : List Int} {n : Nat} (h : (Kd.int .u32).R e w base ok v xs) (hn : xs.length = n) : Rd32 w v n xs := by
  obtain ⟨A, c, h1, h2, h3⟩ := Kd.R_reads h
  subst hn
  exact ⟨rfl, A, c, h1, h2, h3⟩
theorem rd_of_W {w : World} {g : Nat} {t : TypeId} {xs : List Int} (h : W32 w g t xs) (hn : xs.length ≤ 1000) : Rd32 w (.slice (some ⟨g, 0, none⟩) xs.length xs.length) xs.length xs := by
  refine ⟨rfl, _, _, rfl, Nat.le_refl _, ⟨rfl, by omega, fun _ => ⟨⟨g, 0, none⟩, rfl, fun j p hj => ⟨[.int .u32 p], rfl, rfl, fun i u hu => ?_⟩⟩⟩⟩
  obtain ⟨hjl, hp⟩ := List.getElem?_eq_some_iff.1 hj
  cases i with
  | zero =>
    simp only [List.getElem?_cons_zero, Option.some.injEq] at hu
    subst hu
    have e : rd xs j = p := by unfold rd; simp [List.getD_eq_getElem?_getD, hjl, hp]
    rw [show j * (Kd.int .u32).sz + 0 = j from by show j * 1 + 0 = j; omega, add_plain, h.cell hjl, e]
  | succ i => simp at hu
theorem k_c (w : World) : Calls Tryz.prog 133 #[] w fun e w' => ∃ v, e = .returned v ∧ Rd32 w' v 64 kk ∧ Below w.heap.size w w' :=
  (spec_l1K.calls kk w kk_eq).mono fun e w' ⟨v, h1, h2, h3⟩ => ⟨v, h1, rd_of_R h2 kk_len, h3⟩
theorem block_c (h m : List Int) (p : Int) (v0 v1 v2 : Value) (M : Nat) (w : World) (h0 : Rd32 w v0 8 h) (h1 : Rd32 w v1 64 kk) (B : Nat) (h2 : OwnM w B v2 m) (hM : m.length = M) (hp : 0 ≤ p) (hm : p + 64 ≤ M) (hx : (M : Int) ≤ 1000000000000) :
    Calls Tryz.prog 135 #[v0, v1, v2, .int .i64 p] w fun e w' => ∃ v, e = .returned v ∧ Rd32 w' v 8 (Sx.block kk h m p) ∧ Below w.heap.size w w' := by
  obtain ⟨e0, A0, c0, rfl, l0, r0⟩ := h0
  obtain ⟨e1, A1, c1, rfl, l1, r1⟩ := h1
  obtain ⟨A2, c2, rfl, l2, r2⟩ := h2.read
  subst hM
  have := spec_l1Block.calls 80 A0 c0 h A1 c1 kk A2 c2 m p (Sx.block kk h m p) w (by rw [e0]; exact r0) (by omega) (by rw [e1]; exact r1) (by omega) r2 l2 (Sx.block_spec kk h m p e0 e1 hp (by omega) (by omega) (by omega))
  rw [e0, e1] at this
  exact this.mono fun e w' ⟨v, h1, h2, h3⟩ => ⟨v, h1, rd_of_R h2 (Sx.block_len _ _ _ _), h3⟩

/-- the state behind so many blocks -/
def bl (m : List Int) : Nat → List Int
  | 0 => iv8
  | j + 1 => Sx.block kk (bl m j) m (64 * j)
theorem padL_len (s : ByteArray) : ∃ q, (padL s).length = 64 * q ∧ 64 * q ≤ s.size + 128 := by
  have h := Sh.pad_len s.size
  have hl : (padL s).length = s.size + (Sh.pad s.size).length + 8 := by unfold padL; rw [List.length_append, List.length_append, sb_len]; rfl
  have hp : (Sh.pad s.size).length ≤ 64 := by unfold Sh.pad; simp; omega
  exact ⟨(padL s).length / 64, by omega, by omega⟩

theorem own_empty (w : World) : (w.alloc (.cells #[] 5 (0, 0))).ownsRow w.heap.size 5 1 (.slice (some ⟨w.heap.size, 0, none⟩) 0 0) (4 * 0) (c8 (outs [] 0)) :=
  ⟨rfl, .inr ⟨w.heap.size, 0, #[], rfl, Nat.le_refl _, heap_alloc_new w _, Nat.le_refl _, by unfold maxLen; decide, rfl, rfl⟩⟩
theorem below_own {B : Nat} {w W W' : World} {row : Option Nat} (h : Below B w W) (hB : B ≤ W.heap.size) (hg : W.grownBy W' row) (hr : ∀ k, row = some k → B ≤ k) : Below B w W' :=
  ⟨hg.os.trans h.os, hg.tape.trans h.tape, hg.output.trans h.output, Nat.le_trans h.size hg.size, fun k hk => (hg.block k (by omega) (fun e => by have := hr k e.symm; omega)).trans (h.block k hk)⟩
set_option maxRecDepth 100000 in
theorem idx_s (ad : Addr) (n c j : Nat) (h : j < n) (w : World) : (Instr.indexAt 172 (.slice (some ad) n c) (.int .i64 j)).run Tryz.prog w = .ok (.pointer (some (ad.add j))) w := by
  have hu := Tryz.underlying172
  rw [run_indexAt_slice w 172 ad n c .i64 j hu, if_pos (by omega)]
  have es : ∀ w, (sizeOf (Tryz.prog.elem 172)).run Tryz.prog w = .ok 1 w := fun w => by kernel_rfl
  rw [es]
  simp only [Result.andThen, Int.toNat_natCast]
  rw [Nat.mul_one]
theorem own_far {w : World} {base : Nat} {e : TypeId} {size n : Nat} {v : Value} {xs : List Value} (h : w.ownsRow base e size v n xs) {b : Nat} (hb : b < base) : v.ownBlock ≠ some b := fun e' => by have := own_base h b e'; omega
set_option maxRecDepth 100000 in
set_option maxHeartbeats 4000000 in
theorem sha_c (s : ByteArray) (hs : s.size < 274877906944) (w : World) :
    Calls Tryz.prog 101 #[.string s] w fun e w' => e = .returned (.string (strOfNums (outs (bl (padL s) ((padL s).length / 64)) 8))) ∧ Below w.heap.size w w' := by
  obtain ⟨q, hq, hq2⟩ := padL_len s
  obtain ⟨i0, hi0, hz0, hz1, hz2⟩ := info_parts (show (Tryz.prog.info? 5).map (fun i => (i.zero, i.size, i.bytes)) = some (some (.int .u8 0), 1, 1) by kernel_rfl)
  have hb0 := Lib.hid (below_alloc w (.cells (c32 iv8).toArray 171 (0, 0)))
  have h0 := Lib.hid (rd_of_W (show W32 (w.alloc (.cells (c32 iv8).toArray 171 (0, 0))) w.heap.size 171 iv8 from heap_alloc_new w _) (by decide))
  have hq' := Lib.hid hq
  clear hq
  go_enter Tryz.func101, Tryz.ntmps101
  go_wp2_with (first | (go_at_call 133; refine (k_c _).mono ?_; rintro e w1 ⟨v1, rfl, hk1, hb1⟩; have hk1' := Lib.hid hk1; have hb1' := Lib.hid hb1; clear hk1 hb1) | (go_at_call 134; refine (padded_c s (by omega) _).mono ?_; rintro e w2 ⟨v2, rfl, hm2, hb2⟩; have hm2' := Lib.hid hm2; have hb2' := Lib.hid hb2; clear hm2 hb2))
  have hbw := (hb0.out.trans (hb1'.out.mono (by simp))).trans (hb2'.out.mono (by have := hb0.out.size; have := hb1'.out.size; simp at this; omega))
  have hk2 := Lib.hid (hk1'.out.below hb2'.out)
  have h2 := Lib.hid ((h0.out.below hb1'.out).below hb2'.out)
  have hws := hbw.size
  have hbw' := Lib.hid hbw
  clear hbw
  obtain ⟨B, hB⟩ : ∃ B, B = w1.heap.size := ⟨_, rfl⟩
  have hm3 : OwnM w2 B v2 (padL s) := hB ▸ hm2'.out
  obtain ⟨gm, capm, rfl, _⟩ := hm3.cells
  have hm3' := Lib.hid hm3
  clear hB hm3 hm2'
  generalize hL : (padL s).length = L at *
  have hL' := Lib.hid hL
  clear hL
  go_loopw [3, 6] (fun v i wr => ∃ j : Nat, j ≤ q ∧ i = .int .i64 (64 * j) ∧ Rd32 wr v 8 (bl (padL s) j) ∧ Below w2.heap.size w2 wr) (fun _ i _ => (64 * q - intOf i).toNat)
  case atStart => exact ⟨0, by omega, rfl, h2.out, Below.refl _ _⟩
  case round =>
    clear h2
    obtain ⟨j, hj, rfl, hh, hb⟩ := hrel
    have hh' := Lib.hid hh
    have hb' := Lib.hid hb
    have hws2 := hb.size
    have hk3 := Lib.hid (hk2.out.below hb)
    have hm4 := Lib.hid (hm3'.out.below hb)
    clear hh hb
    have hLq := hq'.out
    by_cases hlt : j < q
    · have hl1 : (64 * (j : Int)) < (L : Int) := by omega
      have hl2 : 64 * (j : Int) + 64 ≤ (L : Int) := by omega
      have hl3 : (L : Int) ≤ 1000000000000 := by omega
      clear hLq
      have hl4 : (0 : Int) ≤ 64 * (j : Int) := by omega
      have hc := Lib.hid (block_c (bl (padL s) j) (padL s) (64 * (j : Int)) _ _ _ L _ hh'.out hk3.out B hm4.out hL'.out hl4 hl2 hl3)
      go_wp2_with (go_at_call 135; (with_reducible refine hc.out.mono ?_); rintro e w3 ⟨v3, rfl, hh3, hb3⟩; have hh3' := Lib.hid hh3; have hb3' := Lib.hid hb3; clear hh3 hb3)
      go_roundw
      case rel => exact ⟨j + 1, by omega, by go_num, hh3'.out, hb'.out.trans (hb3'.out.mono hws2)⟩
      case measure => simp [intOf]; omega
    · rw [show j = q by omega] at hh'
      have hl1 : (L : Int) ≤ 64 * (j : Int) := by omega
      clear hLq
      go_wp2_with fail
      have hbw2 := Lib.hid (hbw'.out.trans (hb'.out.mono hws))
      clear hb' hk3 hm4 hk2 hm3' hbw'
      generalize hhs : bl (padL s) q = hs8 at *
      have hhs' := Lib.hid hhs
      clear hhs
      obtain ⟨hl8, A8, c8_, rfl, hc8, hC8⟩ := hh'.out
      have hC8' := Lib.hid hC8
      have hl8' := Lib.hid hl8
      clear hC8 hh' hl8
      obtain ⟨ad, rfl, _⟩ := Kd.at_int hC8'.out 0 (by omega) (by omega)
      obtain ⟨wo, rfl⟩ : ∃ wo : World, wo = wr := ⟨_, rfl⟩
      have hown0 := Lib.hid (own_empty wo)
      have hbe := Lib.hid (below_alloc wo (.cells #[] 5 (0, 0)))
      go_loopw [7, 8] (fun v i wx => ∃ k : Nat, k ≤ 8 ∧ i = .int .i64 k ∧ wx.ownsRow wo.heap.size 5 1 v (4 * k) (c8 (outs hs8 k)) ∧ Below wo.heap.size wo wx) (fun _ i _ => (8 - intOf i).toNat)
      case atStart => exact ⟨0, by omega, rfl, hown0.out, hbe.out⟩
      case round =>
        clear hown0 hbe
        obtain ⟨k, hk, rfl, hO, hb⟩ := hrel
        have hws4 := hb.size
        by_cases hlt : k < 8
        · obtain ⟨ad_, e_, hcx⟩ := Kd.at_int (Kd.C_below hC8'.out hb) k (by omega) (by omega)
          cases Option.some.inj e_
          have hadl : (ad.add k).block < wo.heap.size := by
            obtain ⟨ad_, e_, hcx⟩ := Kd.at_int hC8'.out k (by omega) (by omega)
            cases Option.some.inj e_
            exact World.block_lt_of_cell? wo _ hcx
          have hO' := Lib.hid hO
          have hb' := Lib.hid hb
          rw [Int.toNat_natCast] at hcx
          have ix : ∀ W, (Instr.indexAt 172 (.slice (some ad) 8 c8_) (.int .i64 k)).run Tryz.prog W = .ok (.pointer (some (ad.add k))) W := idx_s ad 8 c8_ k hlt
          have hag := own_far hO hadl
          generalize hx : rd hs8 (k : Int) = x at *
          have hx' := Lib.hid hx
          generalize ad.add k = ak at *
          clear hO hb hx e_
          go_wp2_with fail
          go_region_held3 (fun w' => w'.cell? ak = some (.int .u32 x))
            (first
              | go_keep
              | (rw [hgrow.cell_far _ (by simp; omega) (Ne.symm hag)]; assumption))
            ((refine step_append_lies _ (by rfl) _ _ _ (by rfl) wo.heap.size 5 i0 (.int .u8 0) 1 1 Tryz.underlying46 hi0 hz0 hz1 hz2 rfl (by omega) _ (4 * k) (c8 (outs hs8 k)) (by rfl) ((hO'.out.alloc _).drew)
                ⟨wr.heap.size, 0, none⟩ 4 4 (c8 (b4 x)) (by rfl) (by rfl) (World.news_of_block (cs := (c8 (b4 x)).toArray) (t := 5) (fr := (0, 0)) (heap_alloc_new wr _)) (c8_one _) (by omega)
                (by unfold maxLen; omega) (by omega) (by simp; omega) (wr.heap.size + 1) (by simp) ?_; intro gg cap w5 hown1 hgrow hat hlt5))
          have hown1' := Lib.hid hown1
          have hgrow' := Lib.hid hgrow
          clear hown1 hgrow hat
          go_wp2
          go_roundw
          case rel =>
            refine ⟨k + 1, by omega, by go_num, ?_, ?_⟩
            · have h5 := hown1'.out
              rw [← c8_app, ← hx'.out] at h5
              exact h5
            · exact below_own ((hb'.out.alloc hws4 _).drew) (by simp; omega) hgrow'.out (fun b hb => own_base hO'.out b hb)
          case measure => simp [intOf]; omega
        · rw [show k = 8 by omega] at hO
          have hO' := Lib.hid hO
          have hb' := Lib.hid hb
          have hcv := own_string (P := Tryz.prog) (src := 46) (e := 5) (dst := 9) Tryz.underlying46 Tryz.underlying5 Tryz.underlying9 (xs := outs hs8 8) hO
          obtain ⟨Av, cv, rfl⟩ := own_slice hO
          clear hO hb
          go_wp2_with fail
          go_ret
          have hq8 : L / 64 = q := by have := hq'.out; omega
          exact ⟨by rw [hL'.out, hq8, hhs'.out]; rfl, hbw2.out.trans (hb'.out.mono (by have := hbw2.out.size; omega))⟩
end Go.Proofs.YtgdcafbdkidamaaGreatDoor.Ks
end
section
namespace Go.Proofs.YtgdcafbdkidamaaGreatDoor.Ks
open Go Go.RowKit Go.Shelf Go.Proofs.YtgdcafbdkidamaaGreatDoorW.PrintWords Go.Proofs.YtgdcafbdkidamaaGreatDoorW.PrintLast Go.Proofs.YtgdcafbdkidamaaGreatDoorW.PrintMore Go.Proofs.YtgdcafbdkidamaaGreatDoor.K0 Go.Proofs.YtgdcafbdkidamaaGreatDoor.K2 Go.Proofs.YtgdcafbdkidamaaGreatDoor.K3 Go.Proofs.YtgdcafbdkidamaaGreatDoor.K4 Go.Proofs.YtgdcafbdkidamaaGreatDoor.K5 Go.Proofs.YtgdcafbdkidamaaGreatDoor.Kp
set_option linter.unusedVariables false
set_option linter.unusedSimpArgs false
theorem rd_cut (m : List Int) (p i : Nat) (h : i < 64) : rd ((m.drop p).take 64) (i : Int) = rd m ((p : Int) + i) := by
  unfold rd
  rw [show ((p : Int) + i).toNat = p + i by omega, Int.toNat_natCast]
  simp [List.getD_eq_getElem?_getD, List.getElem?_take, h, List.getElem?_drop]
theorem wd4_cut (m : List Int) (p n : Nat) (h : n < 16) : Sx.wd4 ((m.drop p).take 64) (0 + 4 * (n : Int)) = Sx.wd4 m ((p : Int) + 4 * n) := by
  unfold Sx.wd4
  have e0 := rd_cut m p (4 * n) (by omega)
  have e1 := rd_cut m p (4 * n + 1) (by omega)
  have e2 := rd_cut m p (4 * n + 2) (by omega)
  have e3 := rd_cut m p (4 * n + 3) (by omega)
  rw [show 0 + 4 * (n : Int) = ((4 * n : Nat) : Int) by omega, e0]
  rw [show (((4 * n : Nat) : Int) + 1) = ((4 * n + 1 : Nat) : Int) by omega, show (((4 * n : Nat) : Int) + 2) = ((4 * n + 2 : Nat) : Int) by omega, show (((4 * n : Nat) : Int) + 3) = ((4 * n + 3 : Nat) : Int) by omega, e1, e2, e3]
  rw [show (p : Int) + ((4 * n : Nat) : Int) = (p : Int) + 4 * n by omega, show (p : Int) + ((4 * n + 1 : Nat) : Int) = (p : Int) + 4 * n + 1 by omega, show (p : Int) + ((4 * n + 2 : Nat) : Int) = (p : Int) + 4 * n + 2 by omega, show (p : Int) + ((4 * n + 3 : Nat) : Int) = (p : Int) + 4 * n + 3 by omega]
theorem w16_cut (m : List Int) (p : Nat) : ∀ n, n ≤ 16 → Sx.w16 ((m.drop p).take 64) 0 n = Sx.w16 m p n
  | 0, _ => rfl
  | n + 1, h => by rw [Sx.w16, Sx.w16, w16_cut m p n (by omega), wd4_cut m p n (by omega)]
theorem block_cut (ks h m : List Int) (p : Nat) : Sx.block ks h ((m.drop p).take 64) 0 = Sx.block ks h m p := by
  unfold Sx.block Sx.sched
  rw [w16_cut m p 16 (Nat.le_refl _)]
theorem blocks_bl (m : List Int) : ∀ n j, Sh.blocks (C kk) n (bl m j) (m.drop (64 * j)) = bl m (j + n)
  | 0, j => rfl
  | n + 1, j => by
    rw [Sh.blocks, C, block_cut, List.drop_drop, show 64 * j + 64 = 64 * (j + 1) by omega]
    have := blocks_bl m n (j + 1)
    rw [bl, show (64 * (j : Int)) = ((64 * j : Nat) : Int) by omega] at this
    rw [this, show j + 1 + n = j + (n + 1) by omega]
/-- a text's hash -/
def sha1 (s : ByteArray) : ByteArray := sha kk [s]
theorem sha_same (s : ByteArray) : strOfNums (outs (bl (padL s) ((padL s).length / 64)) 8) = sha1 s := by
  obtain ⟨q, hq, _⟩ := padL_len s
  unfold sha1 sha fin
  rw [tot_one, sbs_one, ← Sh.feed_append, ← Sh.feed_append, ← List.append_assoc]
  show _ = strOfNums (outs (Sh.feedL (C kk) (iv8, []) (padL s)).1 8)
  rw [Sh.feed_blocks (C kk) q iv8 (padL s) hq]
  have := blocks_bl (padL s) q 0
  rw [Nat.mul_zero, List.drop_zero, Nat.zero_add] at this
  rw [show bl (padL s) 0 = iv8 from rfl] at this
  rw [this, hq, show 64 * q / 64 = q by omega]
end Go.Proofs.YtgdcafbdkidamaaGreatDoor.Ks
end
section
namespace Go.Proofs.YtgdcafbdkidamaaGreatDoor.G2
open Go Go.RowKit Go.Proofs.YtgdcafbdkidamaaGreatDoorW.PrintWords Go.Proofs.YtgdcafbdkidamaaGreatDoorW.PrintLast Go.Proofs.YtgdcafbdkidamaaGreatDoorW.PrintMore Go.Proofs.YtgdcafbdkidamaaGreatDoor.K0
def G (w : World) : Prop := Rw Ks.kk w
theorem G_below {w W : World} (h : Below w.heap.size w W) (hG : G w) : G W := K3.Rw_kept hG (K2.gb_of h) (by simp)
end Go.Proofs.YtgdcafbdkidamaaGreatDoor.G2
end
section
namespace Go.Proofs.YtgdcafbdkidamaaGreatDoor.KG2
open Go Go.RowKit Go.Proofs.YtgdcafbdkidamaaGreatDoorW.PrintWords Go.Proofs.YtgdcafbdkidamaaGreatDoorW.PrintLast Go.Proofs.YtgdcafbdkidamaaGreatDoorW.PrintMore Go.Proofs.YtgdcafbdkidamaaGreatDoor.G2
def impl_Sha256.f (a : ByteArray) : Option ByteArray := if a.size < 274877906944 then some (Ks.sha1 a) else none
theorem impl_Sha256.calls (a : ByteArray) (r : ByteArray) (w : World) (hG : G w) (h : impl_Sha256.f a = some r) :
    Calls Tryz.prog 95 #[.string a] w fun e w' => e = .returned (.string r) ∧ Below w.heap.size w w' := by
  unfold impl_Sha256.f at h
  split at h
  · obtain rfl := Option.some.inj h
    exact K5.sha_c Ks.kk Ks.kk_len a w (by omega) hG
  · cases h
def spec_Sha256.f (a : ByteArray) : Option ByteArray := if a.size < 274877906944 then some (Ks.sha1 a) else none
theorem spec_Sha256.calls (a : ByteArray) (r : ByteArray) (w : World) (h : spec_Sha256.f a = some r) :
    Calls Tryz.prog 101 #[.string a] w fun e w' => e = .returned (.string r) ∧ Below w.heap.size w w' := by
  unfold spec_Sha256.f at h
  split at h
  · obtain rfl := Option.some.inj h
    rw [← Ks.sha_same]
    exact Ks.sha_c a (by assumption) w
  · cases h
end Go.Proofs.YtgdcafbdkidamaaGreatDoor.KG2
end
section
namespace Go.Proofs.YtgdcafbdkidamaaGreatDoor.K6
open Go Go.RowKit Go.Shelf Go.Proofs.YtgdcafbdkidamaaGreatDoorW.PrintWords Go.Proofs.YtgdcafbdkidamaaGreatDoorW.PrintLast Go.Proofs.YtgdcafbdkidamaaGreatDoorW.PrintMore Go.Proofs.YtgdcafbdkidamaaGreatDoor.K0 Go.Proofs.YtgdcafbdkidamaaGreatDoor.K2 Go.Proofs.YtgdcafbdkidamaaGreatDoor.K3 Go.Proofs.YtgdcafbdkidamaaGreatDoor.K4 Go.Proofs.YtgdcafbdkidamaaGreatDoor.K5 Go.Proofs.YtgdcafbdkidamaaGreatDoor.Kp
set_option linter.unusedVariables false
set_option linter.unusedSimpArgs false
/-- a box of 64 bytes -/
def Y8 (w : World) (g : Nat) (l : List Int) : Prop := l.length = 64 ∧ w.heap[g]? = some (.cells (c8 l).toArray 187 (0, 0))
theorem Y8.lt {w : World} {g : Nat} {l : List Int} (h : Y8 w g l) : g < w.heap.size := (Array.getElem?_eq_some_iff.1 h.2).1
theorem Y8.cell {w : World} {g : Nat} {l : List Int} (h : Y8 w g l) {i : Nat} (hi : i < 64) : w.cell? ⟨g, i, none⟩ = some (.int .u8 (rd l i)) := by
  rw [cell_of_row w g i _ _ _ h.2, List.getElem?_toArray, c8_get (by rw [h.1]; exact hi)]
theorem Y8.free {w : World} {g : Nat} {l : List Int} (h : Y8 w g l) (i : Nat) : w.frozen? ⟨g, i, none⟩ = false := frozen_of_row w g i _ _ h.2
theorem c8_set (l : List Int) (i : Nat) (x : Int) : (c8 l).set i (.int .u8 x) = c8 (l.set i x) := by unfold c8; rw [List.map_set]
theorem Y8.set {w : World} {g : Nat} {l : List Int} (h : Y8 w g l) (i : Nat) (x : Int) : Y8 (w.setCell ⟨g, i, none⟩ (.int .u8 x)) g (l.set i x) := by
  refine ⟨by rw [List.length_set]; exact h.1, ?_⟩
  have := heap_setCell_same w g i _ 187 (.int .u8 x) h.2
  rw [this, ← c8_set]; simp
theorem Y8.kept {w w' : World} {g : Nat} {l : List Int} (h : Y8 w g l) {row : Option Nat} (hg : w.grownBy w' row) (hne : some g ≠ row) : Y8 w' g l := ⟨h.1, (hg.block g h.lt hne).trans h.2⟩
theorem Y8.far {w : World} {g : Nat} {l : List Int} (h : Y8 w g l) {p : Addr} (hp : g ≠ p.block) (v : Value) : Y8 (w.setCell p v) g l := ⟨h.1, (Below.heap_setCell _ _ _ _ hp).trans h.2⟩
/-- the bytes of it as a text -/
theorem Y8.str {w : World} {g : Nat} {l : List Int} (h : Y8 w g l) : (convert 46 9 (.slice (some ⟨g, 0, none⟩) 64 64)).run Tryz.prog w = .ok (.string (strOfNums l)) w :=
  own_string (P := Tryz.prog) (base := 0) (n := 64) Tryz.underlying46 Tryz.underlying5 Tryz.underlying9 (xs := l)
    ⟨by rw [nums, List.length_map, h.1], .inr ⟨g, 64, _, rfl, Nat.zero_le _, h.2, Nat.le_refl _, by unfold maxLen; decide, by rw [List.size_toArray, c8_len, h.1], by
      rw [Nat.mul_one, List.take_of_length_le (by show (c8 l).length ≤ 64; rw [c8_len, h.1]; exact Nat.le_refl _)]; rfl⟩⟩

/-- a text laid over zeros -/
def keyL (s : ByteArray) : List Int := sb s ++ List.replicate (64 - s.size) 0
theorem keyL_len (s : ByteArray) (h : s.size ≤ 64) : (keyL s).length = 64 := by unfold keyL; rw [List.length_append, sb_len, List.length_replicate]; omega
theorem wpList_copy_key {w : World} {ops : Array Oper} {rest : List Oper} {o : Oper} {a : Act} {Q : Exit → Act → World → Prop} (hgd : o.guard = none) (d s : Operand)
    (ho : o.op = .call { callee := .builtin .copy, args := #[d, s], argTypes := #[46, 9] })
    (g : Nat) (x : ByteArray) (hd : a.eval d = .slice (some ⟨g, 0, none⟩) 64 64) (hs : a.eval s = .string x) (H : Y8 w g (List.replicate 64 0)) (hx : x.size ≤ 64)
    (K : ∀ w1, Y8 w1 g (keyL x) → w.grownBy w1 (some g) → wpList Tryz.prog ops Q rest (a.put o.dst (.int .i64 x.size)) w1) : wpList Tryz.prog ops Q (o :: rest) a w := by
  refine wpList_plain hgd fun K' hK => ?_
  have hsz : (c8 (List.replicate 64 (0 : Int))).toArray.size = 64 := by rw [List.size_toArray, c8_len, List.length_replicate]
  have hrun := run_copy_str_n (P := Tryz.prog) w 46 9 o.type 5 g 0 64 64 x.size x _ _ Tryz.underlying46 (by kernel_rfl) H.2 (Nat.min_eq_left hx).symm (by rw [hsz]; omega)
  have hov : (c8 (List.replicate 64 (0 : Int))).toArray.toList.take 0 ++ c8 ((sb x).take x.size) ++ (c8 (List.replicate 64 (0 : Int))).toArray.toList.drop (0 + x.size) = c8 (keyL x) := by
    show (c8 (List.replicate 64 (0 : Int))).take 0 ++ _ ++ (c8 (List.replicate 64 (0 : Int))).drop (0 + x.size) = _
    rw [List.take_zero, List.nil_append, Nat.zero_add, c8_drop, List.drop_replicate, List.take_of_length_le (by rw [sb_len]; exact Nat.le_refl _), ← c8_app]; rfl
  rw [hov] at hrun
  have hH : Y8 (w.setRow g (c8 (keyL x)).toArray) g (keyL x) := ⟨keyL_len x hx, setRow_heap w g _ _ _ _ H.2⟩
  unfold Oper.wp
  simp [execOp, ho, resolve, invoke, builtin, hd, hs, hrun, Result.andThen]
  exact hK _ _ (K _ hH (gb_setRow w g _))
/-- each byte by one -/
def xorL (l : List Int) (c : Int) : List Int := l.map fun x => Go.bits .xor .u8 x c
theorem xorL_len (l : List Int) (c : Int) : (xorL l c).length = l.length := List.length_map ..
theorem xorL_rd (l : List Int) (c : Int) (k : Nat) (h : k < l.length) : rd (xorL l c) k = Go.bits .xor .u8 (rd l k) c := by
  unfold rd xorL; simp [List.getD_eq_getElem?_getD, h]

theorem bytes_xor (l : List Int) (c : Int) : Bytes (xorL l c) := by
  intro y hy
  simp only [xorL, List.mem_map] at hy
  obtain ⟨x, _, rfl⟩ := hy
  show 0 ≤ IntKind.u8.wrap ((BitVec.ofInt 8 x ^^^ BitVec.ofInt 8 c).toNat : Int) ∧ IntKind.u8.wrap ((BitVec.ofInt 8 x ^^^ BitVec.ofInt 8 c).toNat : Int) < 256
  simp only [IntKind.wrap, IntKind.bits, IntKind.signed]
  simp
  omega
/-- a keyed hash: two running hashes and the box of their pointers -/
def KP (w : World) (k gi gg : Nat) : Prop := w.heap[k]? = some (.cells #[.pointer (some ⟨gi, 0, none⟩), .pointer (some ⟨gg, 0, none⟩)] 186 (0, 0))
theorem KP.lt {w : World} {k gi gg : Nat} (h : KP w k gi gg) : k < w.heap.size := (Array.getElem?_eq_some_iff.1 h).1
theorem KP.c0 {w : World} {k gi gg : Nat} (h : KP w k gi gg) : w.cell? ⟨k, 0, none⟩ = some (.pointer (some ⟨gi, 0, none⟩)) := (cell_of_row w k 0 _ _ _ h).trans rfl
theorem KP.c1 {w : World} {k gi gg : Nat} (h : KP w k gi gg) : w.cell? ⟨k, 1, none⟩ = some (.pointer (some ⟨gg, 0, none⟩)) := (cell_of_row w k 1 _ _ _ h).trans rfl
theorem KP.kept {w w' : World} {k gi gg : Nat} (h : KP w k gi gg) {row : Option Nat} (hg : w.grownBy w' row) (hne : some k ≠ row) : KP w' k gi gg := (hg.block k h.lt hne).trans h
theorem KP.far {w : World} {k gi gg : Nat} (h : KP w k gi gg) {p : Addr} (hp : k ≠ p.block) (v : Value) : KP (w.setCell p v) k gi gg := (Below.heap_setCell _ _ _ _ hp).trans h
theorem hs_far {w : World} {g : Nat} {p : List Int × List Int} {size : Int} (H : HS w g p size) {q : Addr} (hp : g ≠ q.block) (v : Value) : HS (w.setCell q v) g p size := by
  obtain ⟨b, h1, h2, h3⟩ := H; exact ⟨b, h1.far hp v, h2, h3⟩
theorem new3_0 (w : World) (a b c : Obj) : (((w.alloc a).alloc b).alloc c).heap[w.heap.size]? = some a := by
  rw [heap_alloc_old _ _ (by simp <;> omega), heap_alloc_old _ _ (by simp), heap_alloc_new]
theorem new3_1 (w : World) (a b c : Obj) : (((w.alloc a).alloc b).alloc c).heap[w.heap.size + 1]? = some b := by
  rw [heap_alloc_old _ _ (by simp)]
  have := heap_alloc_new (w.alloc a) b; rwa [World.size_alloc] at this
theorem new3_2 (w : World) (a b c : Obj) : (((w.alloc a).alloc b).alloc c).heap[w.heap.size + 1 + 1]? = some c := by
  have := heap_alloc_new ((w.alloc a).alloc b) c; simpa only [World.size_alloc] using this
theorem newB3 (w : World) (a b c : Obj) : Below w.heap.size w (((w.alloc a).alloc b).alloc c) :=
  (((Below.refl _ w).alloc (Nat.le_refl _) _).alloc (by simp) _).alloc (by simp <;> omega) _
set_option maxRecDepth 100000 in
theorem idx_y (g : Nat) (j : Nat) (h : j < 64) (w : World) : (Instr.indexAt 187 (.pointer (some ⟨g, 0, none⟩)) (.int .i64 j)).run Tryz.prog w = .ok (.pointer (some ⟨g, j, none⟩)) w := by
  have hu := Tryz.underlying187
  have e : Tryz.prog.arrayLen 187 = 64 := by kernel_rfl
  rw [run_indexAt_array w 187 ⟨g, 0, none⟩ .i64 j hu, e, if_pos (by omega)]
  have es : ∀ w, (sizeOf (Tryz.prog.elem 187)).run Tryz.prog w = .ok 1 w := fun w => by kernel_rfl
  rw [es]
  simp only [Result.andThen, Int.toNat_natCast]
  rw [Addr.add_lit, Nat.mul_one, Nat.zero_add]
theorem wpList_load_y {w : World} {ops : Array Oper} {rest : List Oper} {o : Oper} {a : Act} {Q : Exit → Act → World → Prop} (hgd : o.guard = none) (x : Operand) (ho : o.op = .load 187 x)
    (g : Nat) (l : List Int) (hx : a.eval x = .pointer (some ⟨g, 0, none⟩)) (H : Y8 w g l) (h : wpList Tryz.prog ops Q rest (a.put o.dst (.agg (c8 l).toArray)) w) : wpList Tryz.prog ops Q (o :: rest) a w :=
  wpList_load_row hgd 187 x ho g hx _ _ _ _ H.2 Tryz.underlying187 rfl (by rw [List.size_toArray, c8_len, H.1]; kernel_rfl) h
theorem wpList_store_y {w : World} {ops : Array Oper} {rest : List Oper} {o : Oper} {a : Act} {Q : Exit → Act → World → Prop} (hgd : o.guard = none) (x y : Operand) (ho : o.op = .store 187 x y)
    (g : Nat) (l l0 : List Int) (hx : a.eval x = .pointer (some ⟨g, 0, none⟩)) (hy : a.eval y = .agg (c8 l).toArray) (H : Y8 w g l0) (hl : l.length = 64)
    (h : ∀ w1, Y8 w1 g l → w.grownBy w1 (some g) → wpList Tryz.prog ops Q rest (a.put o.dst undef) w1) : wpList Tryz.prog ops Q (o :: rest) a w :=
  wpList_store_row hgd 187 x y ho g (c8 l).toArray hx hy _ _ H.2 (by rw [List.size_toArray, c8_len, hl]; kernel_rfl) (by rw [List.size_toArray, List.size_toArray, c8_len, c8_len, hl, H.1])
    (by rw [Array.all_eq_true_iff_forall_mem]; intro v hv; exact c8_one l v (by simpa using hv)) (h _ ⟨hl, setRow_heap w g _ _ _ _ H.2⟩ (gb_setRow w g _))
/-- what the loop keeps: the boxes, the hashes -/
structure KI (w wr : World) (k gi gg a b : Nat) (la lb : List Int) : Prop where
  ya : Y8 wr a la
  yb : Y8 wr b lb
  hi : HS wr gi (iv8, []) (0 : Nat)
  hg : HS wr gg (iv8, []) (0 : Nat)
  hk : KP wr k gi gg
  hb : Below w.heap.size w wr
theorem KI.setA {w wr : World} {k gi gg a b : Nat} {la lb : List Int} (h : KI w wr k gi gg a b la lb) (n1 : gi ≠ a) (n2 : gg ≠ a) (n3 : k ≠ a) (n4 : b ≠ a) (n5 : w.heap.size ≤ a) (i : Nat) (x : Int) :
    KI w (wr.setCell ⟨a, i, none⟩ (.int .u8 x)) k gi gg a b (la.set i x) lb :=
  ⟨h.ya.set i x, h.yb.far n4 _, hs_far h.hi n1 _, hs_far h.hg n2 _, h.hk.far n3 _, h.hb.setCell n5 _⟩
theorem KI.setB {w wr : World} {k gi gg a b : Nat} {la lb : List Int} (h : KI w wr k gi gg a b la lb) (n1 : gi ≠ b) (n2 : gg ≠ b) (n3 : k ≠ b) (n4 : a ≠ b) (n5 : w.heap.size ≤ b) (i : Nat) (x : Int) :
    KI w (wr.setCell ⟨b, i, none⟩ (.int .u8 x)) k gi gg a b la (lb.set i x) :=
  ⟨h.ya.far n4 _, h.yb.set i x, hs_far h.hi n1 _, hs_far h.hg n2 _, h.hk.far n3 _, h.hb.setCell n5 _⟩

theorem KI.growA {w wr w1 : World} {k gi gg a b : Nat} {la lb la' : List Int} (h : KI w wr k gi gg a b la lb) (n1 : gi ≠ a) (n2 : gg ≠ a) (n3 : k ≠ a) (n4 : b ≠ a) (n5 : w.heap.size ≤ a) (hY : Y8 w1 a la') (hG : wr.grownBy w1 (some a)) : KI w w1 k gi gg a b la' lb :=
  ⟨hY, h.yb.kept hG (some_ne n4), h.hi.kept hG (some_ne n1), h.hg.kept hG (some_ne n2), h.hk.kept hG (some_ne n3), below_of h.hb hG n5⟩
theorem KI.growB {w wr w1 : World} {k gi gg a b : Nat} {la lb lb' : List Int} (h : KI w wr k gi gg a b la lb) (n1 : gi ≠ b) (n2 : gg ≠ b) (n3 : k ≠ b) (n4 : a ≠ b) (n5 : w.heap.size ≤ b) (hY : Y8 w1 b lb') (hG : wr.grownBy w1 (some b)) : KI w w1 k gi gg a b la lb' :=
  ⟨h.ya.kept hG (some_ne n4), hY, h.hi.kept hG (some_ne n1), h.hg.kept hG (some_ne n2), h.hk.kept hG (some_ne n3), below_of h.hb hG n5⟩
/-- a keyed hash that runs: the key's bytes, what the inner one holds -/
structure KH (kk : List Int) (w0 w : World) (k gi gg : Nat) (L : List Int) (p : List Int × List Int) (n : Int) : Prop where
  kp : KP w k gi gg
  hi : HS w gi p n
  hg : HS w gg (Sh.feedL (C kk) (iv8, []) (xorL L 92)) (64 : Nat)
  n1 : gi ≠ gg
  n2 : k ≠ gi
  n3 : k ≠ gg
  l0 : w0.heap.size ≤ k
  l1 : w0.heap.size ≤ gi
  l2 : w0.heap.size ≤ gg
  hb : Below w0.heap.size w0 w
/-- the key as it is laid: a long one's hash -/
def keyOf (kk : List Int) (key : ByteArray) : ByteArray := if 64 < key.size then sha kk [key] else key
theorem sha_size (kk : List Int) (xs : List ByteArray) : (sha kk xs).size = 32 := by
  rw [← sb_len]
  unfold sha sb strOfNums
  rw [List.length_map]
  show (List.map _ _).length = 32
  rw [List.length_map, fin, outs_len]
theorem keyOf_le (kk : List Int) (key : ByteArray) : (keyOf kk key).size ≤ 64 := by
  unfold keyOf; split
  · rw [sha_size]; decide
  · omega
set_option maxRecDepth 100000 in
set_option maxHeartbeats 4000000 in
theorem newKeyed_c (kk : List Int) (hkk : kk.length = 64) (key0 : ByteArray) (hn : key0.size < 1152921504606846976) (w0 : World) (hR0 : Rw kk w0) :
    Calls Tryz.prog 124 #[.string key0] w0 fun e w' => ∃ k gi gg : Nat, e = .returned (.pointer (some ⟨k, 0, none⟩)) ∧ KH kk w0 w' k gi gg (keyL (keyOf kk key0)) (Sh.feedL (C kk) (iv8, []) (xorL (keyL (keyOf kk key0)) 54)) (64 : Nat) := by
  have hR0' := Lib.hid hR0
  have hn' := Lib.hid hn
  clear hR0 hn
  go_enter Tryz.func124, Tryz.ntmps124
  go_upto_if 9 with (fail)
  go_cut [0] (fun v wc => ∃ key : ByteArray, v = .string key ∧ Aside0 (key = keyOf kk key0) ∧ Aside0 (Below w0.heap.size w0 wc))
  case first =>
    by_cases h64 : 64 < key0.size
    · have hko : keyOf kk key0 = sha kk [key0] := if_pos h64
      have hko' := Lib.hid hko
      have h64' : (64 : Int) < (key0.size : Int) := by omega
      clear hko
      go_wp2_with (go_at_call 95; (with_reducible refine (K5.sha_c kk hkk key0 _ hn'.out hR0'.out).mono ?_); rintro e w1 ⟨rfl, hb1⟩; have hb1' := Lib.hid hb1; clear hb1)
      go_meet
      case rel => exact ⟨_, rfl, ⟨hko'.out.symm⟩, ⟨hb1'.out⟩⟩
    · have hko' := Lib.hid (show keyOf kk key0 = key0 from if_neg h64)
      have h64' : ¬ (64 : Int) < (key0.size : Int) := by omega
      go_wp2_with fail
      go_meet
      case rel => exact ⟨_, rfl, ⟨hko'.out.symm⟩, ⟨Below.refl _ _⟩⟩
  case rest =>
  obtain ⟨key, rfl, hkey, hb0⟩ := hcut
  generalize hwc : wc = w at *
  clear hwc
  have hk : key.size ≤ 64 := by rw [hkey.out]; exact keyOf_le kk key0
  have hR' := Lib.hid (Rw_kept hR0'.out (gb_of hb0.out) (by simp))
  have hw0 := hb0.out.size
  go_wp2_with fail
  go_at_call 136
  refine (newHash_c _).mono ?_
  rintro e w1 ⟨gi, rfl, hgi, hS1, hb1⟩
  have hS1' := Lib.hid hS1
  have hb1' := Lib.hid hb1
  have hgi' := Lib.hid hgi
  clear hS1 hb1 hgi
  go_wp2_with fail
  go_at_call 136
  refine (newHash_c _).mono ?_
  rintro e w2 ⟨gg, rfl, hgg, hS2, hb2⟩
  have hz1 := hb1'.out.size
  have hz2 := hb2.size
  have hl1 := hS1'.out.lt
  have hl2 := hS2.lt
  have hb3 := newB3 w2 (.cells #[.pointer (some ⟨gi, 0, none⟩), .pointer (some ⟨gg, 0, none⟩)] 186 (0, 0)) (.cells (c8 (List.replicate 64 0)).toArray 187 (0, 0)) (.cells (c8 (List.replicate 64 0)).toArray 187 (0, 0))
  have hKI : KI w _ w2.heap.size gi gg (w2.heap.size + 1) (w2.heap.size + 1 + 1) (List.replicate 64 0) (List.replicate 64 0) :=
    ⟨⟨by simp, new3_1 w2 _ _ _⟩, ⟨by simp, new3_2 w2 _ _ _⟩, (hS1'.out.kept (gb_of hb2) (by simp)).kept (gb_of hb3) (by simp), hS2.kept (gb_of hb3) (by simp), new3_0 w2 _ _ _, (hb1'.out.trans (hb2.mono hz1)).trans (hb3.mono (by omega))⟩
  have hKI' := Lib.hid hKI
  have n1 : gi < w2.heap.size := by omega
  have n2 : gg < w2.heap.size := by omega
  have hz3 : w.heap.size ≤ w2.heap.size := by omega
  have ngg : gi ≠ gg := by omega
  have hgi2 : w.heap.size ≤ gi := by have := hgi'.out; omega
  have hgg2 : w.heap.size ≤ gg := by omega
  clear hgg hS2 hb2 hb3 hKI
  obtain ⟨kb, hkb⟩ : ∃ kb, kb = w2.heap.size := ⟨_, rfl⟩
  have hkb' := Lib.hid hkb
  have hkl := Lib.hid (keyL_len key hk)
  go_wp2_with (first
    | (refine wpList_copy_key rfl (.tmp 16) (.tmp 17) rfl (w2.heap.size + 1) key rfl rfl hKI'.out.ya hk ?_; intro w4 hY4 hG4; have hK4 := Lib.hid (hKI'.out.growA (by omega) (by omega) (by omega) (by omega) (by omega) hY4 hG4); clear hY4 hG4)
    | (refine wpList_load_y rfl (.tmp 4) rfl (w2.heap.size + 1) (keyL key) rfl hK4.out.ya ?_)
    | (refine wpList_store_y rfl (.tmp 5) (.tmp 19) rfl (w2.heap.size + 1 + 1) (keyL key) _ rfl rfl hK4.out.yb hkl.out ?_; intro w5 hY5 hG5; have hK5 := Lib.hid (hK4.out.growB (by omega) (by omega) (by omega) (by omega) (by omega) hY5 hG5); clear hY5 hG5))
  clear hKI' hK4
  generalize hLk : keyL key = L at *
  have hLk' := Lib.hid hLk
  clear hLk
  go_loopw [20] (fun i wr => ∃ j : Nat, j ≤ 64 ∧ i = .int .i64 j ∧ KI w wr w2.heap.size gi gg (w2.heap.size + 1) (w2.heap.size + 1 + 1) ((xorL L 54).take j ++ L.drop j) ((xorL L 92).take j ++ L.drop j)) (fun i _ => (64 - intOf i).toNat)
  case atStart => exact ⟨0, by omega, rfl, hK5.out⟩
  case round =>
    clear hK5
    obtain ⟨j, hj, rfl, hI⟩ := hrel
    have hI' := Lib.hid hI
    by_cases hlt : j < 64
    · have ca := hI.ya.cell hlt
      have fa := hI.ya.free j
      have cb := hI.yb.cell hlt
      have fb := hI.yb.free j
      have hlx := Lib.hid (fun c => xorL_len L c)
      rw [rd_mix _ _ _ (by rw [xorL_len, hkl.out]; omega)] at ca cb
      have ia := idx_y (w2.heap.size + 1) j hlt
      have ib := idx_y (w2.heap.size + 1 + 1) j hlt
      clear hI
      go_wp2_with fail
      go_roundw
      case rel =>
        refine ⟨j + 1, by omega, by go_num, ?_⟩
        have h2 := (hI'.out.setA (by omega) (by omega) (by omega) (by omega) (by omega) j (Go.bits .xor .u8 (rd L j) 54)).setB (by omega) (by omega) (by omega) (by omega) (by omega) j (Go.bits .xor .u8 (rd L j) 92)
        rw [← xorL_rd L 54 j (by rw [hkl.out]; exact hlt), ← xorL_rd L 92 j (by rw [hkl.out]; exact hlt), set_mix _ _ _ (by rw [xorL_len, hkl.out]; omega) (by rw [hkl.out]; omega), set_mix _ _ _ (by rw [xorL_len, hkl.out]; omega) (by rw [hkl.out]; omega)] at h2
        rw [← xorL_rd L 54 j (by rw [hkl.out]; exact hlt), ← xorL_rd L 92 j (by rw [hkl.out]; exact hlt)]
        exact h2
      case measure => simp [intOf]; omega
    · have hj64 : j = 64 := by omega
      rw [hj64, List.take_of_length_le (by rw [xorL_len, hkl.out]; omega), List.take_of_length_le (by rw [xorL_len, hkl.out]; omega), List.drop_eq_nil_of_le (by rw [hkl.out]; omega), List.append_nil, List.append_nil] at hI
      have hI2 := Lib.hid hI
      have hcA : (convert 46 9 (.slice (some ⟨w2.heap.size + 1, 0, none⟩) 64 64)).run Tryz.prog wr.drew = .ok (.string (strOfNums (xorL L 54))) wr.drew := Y8.str (w := wr.drew) hI.ya
      have pk0 := hI.hk.c0
      have pk1 := hI.hk.c1
      have hsA := Lib.hid (sb_str (bytes_xor L 54))
      have hsB := Lib.hid (sb_str (bytes_xor L 92))
      have hzA : (strOfNums (xorL L 54)).size = 64 := by rw [← sb_len, sb_str (bytes_xor L 54), xorL_len, hkl.out]
      have hzB : (strOfNums (xorL L 92)).size = 64 := by rw [← sb_len, sb_str (bytes_xor L 92), xorL_len, hkl.out]
      have hzA' := Lib.hid hzA
      have hzB' := Lib.hid hzB
      clear hI' hI hj64 hzA hzB
      go_wp2_with fail
      go_still_tail 6, (by kernel_rfl)
      go_wp2_with fail
      go_at_call 148
      have hRr : Rw kk wr := Rw_kept hR'.out (gb_of hI2.out.hb) (by simp)
      refine (take_c kk hkk _ _ gi _ (by rw [hzA'.out]; unfold maxLen; omega) (by omega) (by rw [hzA'.out]; decide) _ (show Rw kk wr.drew from hRr) (show HS wr.drew gi (iv8, []) _ from hI2.out.hi)).mono ?_
      rintro e w6 ⟨rfl, hS6, hG6⟩
      have hG6 : wr.grownBy w6 (some gi) := gb_undrew hG6
      have hS6' := Lib.hid hS6
      have hG6' := Lib.hid hG6
      have hyb := hI2.out.yb.kept hG6 (some_ne (by omega))
      have hgg6 := Lib.hid (hI2.out.hg.kept hG6 (some_ne (by omega)))
      have hkp6 := hI2.out.hk.kept hG6 (some_ne (by omega))
      have hkp6' := Lib.hid hkp6
      have hR6 := Lib.hid (Rw_kept hRr hG6 (some_ne (by have := hR'.out; obtain ⟨t, fr, e⟩ := this; have := (Array.getElem?_eq_some_iff.1 e).1; omega)))
      have hcB : (convert 46 9 (.slice (some ⟨w2.heap.size + 1 + 1, 0, none⟩) 64 64)).run Tryz.prog w6.drew = .ok (.string (strOfNums (xorL L 92))) w6.drew := Y8.str (w := w6.drew) hyb
      have qk0 := hkp6.c0
      have qk1 := hkp6.c1
      clear hS6 hG6 hyb hkp6 pk0 pk1 hcA hRr
      go_wp2_with fail
      go_still_tail 6, (by kernel_rfl)
      go_wp2_with fail
      go_at_call 148
      refine (take_c kk hkk _ _ gg _ (by rw [hzB'.out]; unfold maxLen; omega) (by omega) (by rw [hzB'.out]; decide) _ (show Rw kk w6.drew from hR6.out) (show HS w6.drew gg (iv8, []) _ from hgg6.out)).mono ?_
      rintro e w7 ⟨rfl, hS7, hG7⟩
      have hG7 : w6.grownBy w7 (some gg) := gb_undrew hG7
      rw [hsB.out, hzB'.out] at hS7
      have hS6 := hS6'.out
      rw [hsA.out, hzA'.out] at hS6
      have hF := Lib.hid (show KH kk w0 w7 w2.heap.size gi gg L (Sh.feedL (C kk) (iv8, []) (xorL L 54)) 64 from
        ⟨hkp6'.out.kept hG7 (some_ne (by omega)), hS6.kept hG7 (some_ne ngg), hS7, ngg, by omega, by omega, by omega, by omega, by omega, below_of (below_of (hb0.out.trans (hI2.out.hb.mono hw0)) hG6'.out (by omega)) hG7 (by omega)⟩)
      clear hS7 hG7 hS6 qk0 qk1 hcB
      go_wp2_with fail
      go_ret
      have hF2 := hF.out
      rw [← hLk'.out, hkey.out] at hF2
      exact ⟨_, gi, gg, rfl, hF2⟩
end Go.Proofs.YtgdcafbdkidamaaGreatDoor.K6
end
section
namespace Go.Proofs.YtgdcafbdkidamaaGreatDoor.K6
open Go Go.RowKit Go.Shelf Go.Proofs.YtgdcafbdkidamaaGreatDoorW.PrintWords Go.Proofs.YtgdcafbdkidamaaGreatDoorW.PrintLast Go.Proofs.YtgdcafbdkidamaaGreatDoorW.PrintMore Go.Proofs.YtgdcafbdkidamaaGreatDoor.K0 Go.Proofs.YtgdcafbdkidamaaGreatDoor.K2 Go.Proofs.YtgdcafbdkidamaaGreatDoor.K3 Go.Proofs.YtgdcafbdkidamaaGreatDoor.K4 Go.Proofs.YtgdcafbdkidamaaGreatDoor.K5 Go.Proofs.YtgdcafbdkidamaaGreatDoor.Kp
set_option linter.unusedVariables false
set_option linter.unusedSimpArgs false
theorem Rw_lt {kk : List Int} {w : World} (h : Rw kk w) : 3 < w.heap.size := by obtain ⟨t, fr, e⟩ := h; exact (Array.getElem?_eq_some_iff.1 e).1
theorem KH.drew {kk : List Int} {w0 w : World} {k gi gg : Nat} {L : List Int} {p : List Int × List Int} {n : Int} (h : KH kk w0 w k gi gg L p n) : KH kk w0 w.drew k gi gg L p n := ⟨h.kp, h.hi, h.hg, h.n1, h.n2, h.n3, h.l0, h.l1, h.l2, h.hb.drew⟩
theorem KH.rw {kk : List Int} {w0 w : World} {k gi gg : Nat} {L : List Int} {p : List Int × List Int} {n : Int} (h : KH kk w0 w k gi gg L p n) (hR : Rw kk w0) : Rw kk w := Rw_kept hR (gb_of h.hb) (by simp)

set_option maxRecDepth 100000 in
set_option maxHeartbeats 4000000 in
theorem ktake_c (kk : List Int) (hkk : kk.length = 64) (w0 w : World) (k gi gg : Nat) (L : List Int) (p : List Int × List Int) (n : Nat) (s : ByteArray) (hs : s.size ≤ maxLen) (hz : n + s.size < 1152921504606846976) (hR : Rw kk w0) (H : KH kk w0 w k gi gg L p n) :
    Calls Tryz.prog 211 #[.pointer (some ⟨k, 0, none⟩), .string s] w fun e w' => e = .returned (.tuple #[]) ∧ KH kk w0 w' k gi gg L (Sh.feedL (C kk) p (sb s)) ((n + s.size : Nat) : Int) ∧ w.grownBy w' (some gi) := by
  have k0 := H.kp.c0
  have H' := Lib.hid H
  have hR' := Lib.hid hR
  have hz' := Lib.hid hz
  clear H hR hz
  go_enter Tryz.func211, Tryz.ntmps211
  go_wp2_with fail
  go_at_call 148
  have hz := hz'.out
  refine (take_c kk hkk p n gi s hs (by omega) (by omega) _ (H'.out.rw hR'.out) H'.out.hi).mono ?_
  rintro e w1 ⟨rfl, hS, hG⟩
  have hS' := Lib.hid hS
  have hG' := Lib.hid hG
  clear hS hG hz
  go_wp2_with fail
  go_end0
  have h := H'.out
  have e1 : ((n + s.size : Nat) : Int) = (n : Int) + s.size := by omega
  rw [e1]
  exact ⟨rfl, ⟨h.kp.kept hG'.out (some_ne h.n2), hS'.out, h.hg.kept hG'.out (some_ne (Ne.symm h.n1)), h.n1, h.n2, h.n3, h.l0, h.l1, h.l2, below_of h.hb hG'.out h.l1⟩, hG'.out⟩

set_option maxRecDepth 100000 in
set_option maxHeartbeats 4000000 in
theorem kfeed_c (kk : List Int) (hkk : kk.length = 64) (w0 w : World) (k gi gg : Nat) (L : List Int) (p : List Int × List Int) (n b : Nat) (xs : List ByteArray) (cap : Nat) (hn : n + tot xs < 1152921504606846976) (hl : xs.length < 1000) (hR : Rw kk w0) (H : KH kk w0 w k gi gg L p n) (hP : Ps w b xs) (hbg : b ≠ gi) :
    Calls Tryz.prog 125 #[.iface 153 (.pointer (some ⟨k, 0, none⟩)), .slice (some ⟨b, 0, none⟩) xs.length cap] w fun e w' => e = .returned (.tuple #[]) ∧ KH kk w0 w' k gi gg L (Sh.feedL (C kk) p (sbs xs)) ((n + tot xs : Nat) : Int) ∧ w.grownBy w' (some gi) := by
  have hm : ∀ j w, (method (j + 1) 153 (.pointer (some ⟨k, 0, none⟩)) "loop.example/s02095/impl.take").run Tryz.prog w = .ok (211, .pointer (some ⟨k, 0, none⟩)) w := fun _ _ => by kernel_rfl
  have hH' := Lib.hid H
  have hR' := Lib.hid hR
  have hP' := Lib.hid hP
  have hn' := Lib.hid hn
  clear H hR hP hn
  go_enter Tryz.func125, Tryz.ntmps125
  go_wp2
  go_loopw [8] (fun i wr => ∃ j : Nat, j ≤ xs.length ∧ i = .int .i64 j ∧ KH kk w0 wr k gi gg L (Sh.feedL (C kk) p (sbs (xs.take j))) ((n + tot (xs.take j) : Nat) : Int) ∧ w.grownBy wr (some gi)) (fun i _ => xs.length - (intOf i).toNat)
  case atStart => exact ⟨0, by omega, rfl, hH'.out, gb_rf _ _⟩
  case round =>
    clear hH'
    obtain ⟨j, hj, rfl, hS, hG⟩ := hrel
    have hS' := Lib.hid hS
    have hG' := Lib.hid hG
    by_cases hlt : j < xs.length
    · have cx := (hP'.out.kept hG (some_ne hbg)).cell hlt
      have hx1 := tot_take xs j hlt
      have hx2 := tot_le xs (j + 1)
      have hn := hn'.out
      have hx3 : (xs[j]).size ≤ maxLen := by unfold maxLen; omega
      have hx4 : (n + tot (xs.take j)) + (xs[j]).size < 1152921504606846976 := by omega
      generalize hx : xs[j] = x at *
      have hx' := Lib.hid hx
      have hx1' := Lib.hid hx1
      have hc := Lib.hid (ktake_c kk hkk w0 wr k gi gg L _ (n + tot (xs.take j)) x hx3 hx4 hR'.out hS)
      clear hS hG hn hx hx1 hx2 hx4 hx3
      go_wp2_with (go_at_call 211; (with_reducible refine hc.out.mono ?_); rintro e w2 ⟨rfl, hS2, hG2⟩; have hS2' := Lib.hid hS2; have hG2' := Lib.hid hG2; clear hS2 hG2)
      go_roundw
      case rel =>
        refine ⟨j + 1, by omega, by go_num, ?_, gb_trans hG'.out hG2'.out⟩
        have h2 := hS2'.out
        rw [← Sh.feed_append] at h2
        have e1 : sbs (xs.take j) ++ sb x = sbs (xs.take (j + 1)) := by rw [take_step xs j hlt, sbs_app, sbs_one, hx'.out]
        have e2 : n + tot (xs.take j) + x.size = n + tot (xs.take (j + 1)) := by rw [hx1'.out]; omega
        rw [e1, e2] at h2
        exact h2
      case measure => simp [intOf]; omega
    · rw [List.take_of_length_le (by omega)] at hS
      have hS2' := Lib.hid hS
      clear hS hG
      go_wp2
      go_end0
      exact ⟨rfl, hS2'.out, hG'.out⟩

theorem bytes_outs (st : List Int) : ∀ n, Bytes (outs st n)
  | 0 => fun _ h => by cases h
  | n + 1 => fun y hy => by
    rw [outs, List.mem_append] at hy
    rcases hy with h | h
    · exact bytes_outs st n y h
    · exact bytes_b4 _ y h
theorem sb_fin (kk : List Int) (p : List Int × List Int) (n : Nat) : sb (strOfNums (fin kk p n)) = fin kk p n := sb_str (bytes_outs _ _)
theorem fin_len (kk : List Int) (p : List Int × List Int) (n : Nat) : (fin kk p n).length = 32 := outs_len _ 8
theorem fin_size (kk : List Int) (p : List Int × List Int) (n : Nat) : (strOfNums (fin kk p n)).size = 32 := by rw [← sb_len, sb_fin, fin_len]
/-- what a keyed hash sums to -/
def mac (kk : List Int) (L : List Int) (p : List Int × List Int) (n : Nat) : List Int :=
  fin kk (Sh.feedL (C kk) (Sh.feedL (C kk) (iv8, []) (xorL L 92)) (fin kk p n)) 96

set_option maxRecDepth 100000 in
set_option maxHeartbeats 4000000 in
theorem ksum_c (kk : List Int) (hkk : kk.length = 64) (w0 w : World) (k gi gg : Nat) (L : List Int) (p : List Int × List Int) (n : Nat) (hz : n < 1152921504606846976) (hR : Rw kk w0) (H : KH kk w0 w k gi gg L p n) :
    Calls Tryz.prog 126 #[.pointer (some ⟨k, 0, none⟩)] w fun e w' => e = .returned (.string (strOfNums (mac kk L p n))) ∧ Below w0.heap.size w0 w' := by
  have k0 := H.kp.c0
  have k1 := H.kp.c1
  have H' := Lib.hid H
  have hR' := Lib.hid hR
  have hz' := Lib.hid hz
  have hc := Lib.hid (fun W (hW : KH kk w0 W k gi gg L p n) => sum_c kk hkk p n hz gi W (hW.rw hR) hW.hi)
  clear H hR hz
  go_enter Tryz.func126, Tryz.ntmps126
  go_wp2_with fail
  go_region_held3 (fun w' => w'.cell? ⟨k, 0, none⟩ = some (.pointer (some ⟨gi, 0, none⟩)) ∧ w'.cell? ⟨k, 1, none⟩ = some (.pointer (some ⟨gg, 0, none⟩)))
    (first | go_keep | (go_split_ands; refine ⟨?_, ?_⟩ <;> assumption))
    (first
      | (go_at_call 137; refine (hc.out _ H'.out.drew).mono ?_; rintro e w1 ⟨rfl, hG1⟩; have hG1' := Lib.hid (gb_undrew hG1); have hk1 := H'.out.kp.kept hG1'.out (some_ne H'.out.n2); have c0' := hk1.c0; have c1' := hk1.c1; have hk1' := Lib.hid hk1; clear hG1 hk1)
      | (go_at_call 148; refine (take_c kk hkk _ _ gg _ (by rw [fin_size]; unfold maxLen; decide) (by decide) (by rw [fin_size]; decide) _ (Rw_kept (H'.out.rw hR'.out) hG1'.out (some_ne (by have := Rw_lt hR'.out; have := H'.out.l1; omega))) (H'.out.hg.kept hG1'.out (some_ne (Ne.symm H'.out.n1)))).mono ?_; rintro e w2 ⟨rfl, hS2, hG2⟩; have hS2' := Lib.hid hS2; have hG2' := Lib.hid hG2; have hk2 := hk1'.out.kept hG2 (some_ne H'.out.n3); have d0' := hk2.c0; have d1' := hk2.c1; clear hS2 hG2 hk2))
  clear c0' c1' k0 k1
  go_wp2_with fail
  go_at_call 137
  have hS3 := hS2'.out
  rw [sb_fin, fin_size] at hS3
  refine (sum_c kk hkk _ 96 (by decide) gg _ (Rw_kept (Rw_kept (H'.out.rw hR'.out) hG1'.out (some_ne (by have := Rw_lt hR'.out; have := H'.out.l1; omega))) hG2'.out (some_ne (by have := Rw_lt hR'.out; have := H'.out.l2; omega))) hS3).mono ?_
  rintro e w3 ⟨rfl, hG3⟩
  have hG3' := Lib.hid hG3
  clear hG3 hS3 d0' d1'
  go_wp2_with fail
  go_ret
  exact ⟨rfl, below_of (below_of (below_of H'.out.hb hG1'.out H'.out.l1) hG2'.out H'.out.l2) hG3'.out H'.out.l2⟩

/-- a keyed hash of texts -/
def hm (kk : List Int) (key : ByteArray) (xs : List ByteArray) : ByteArray :=
  strOfNums (mac kk (keyL (keyOf kk key)) (Sh.feedL (C kk) (Sh.feedL (C kk) (iv8, []) (xorL (keyL (keyOf kk key)) 54)) (sbs xs)) (64 + tot xs))

set_option maxRecDepth 100000 in
set_option maxHeartbeats 4000000 in
theorem macOf_c (kk : List Int) (hkk : kk.length = 64) (key : ByteArray) (b : Nat) (xs : List ByteArray) (cap : Nat) (w : World) (hk : key.size < 1152921504606846976) (hn : 64 + tot xs < 1152921504606846976) (hl : xs.length < 1000) (hR : Rw kk w) (hP : Ps w b xs) :
    Calls Tryz.prog 80 #[.string key, .slice (some ⟨b, 0, none⟩) xs.length cap] w fun e w' => e = .returned (.string (hm kk key xs)) ∧ Below w.heap.size w w' := by
  have hb := hP.lt
  have hn' := Lib.hid hn
  have hR' := Lib.hid hR
  have hP' := Lib.hid hP
  have hk' := Lib.hid hk
  clear hn hR hP hk
  go_enter Tryz.func80, Tryz.ntmps80
  go_wp2_with fail
  go_at_call 124
  refine (newKeyed_c kk hkk key hk'.out _ hR'.out).mono ?_
  rintro e w1 ⟨k, gi, gg, rfl, hK1⟩
  have hK1' := Lib.hid hK1
  clear hK1
  go_wp2_with fail
  go_at_call 125
  refine (kfeed_c kk hkk w w1 k gi gg _ _ 64 b xs cap hn'.out hl hR'.out hK1'.out (hP'.out.kept (gb_of hK1'.out.hb) (by simp)) (by have := hK1'.out.l1; omega)).mono ?_
  rintro e w2 ⟨rfl, hK2, hG2⟩
  have hK2' := Lib.hid hK2
  clear hK2 hG2
  go_wp2_with fail
  go_at_call 126
  refine (ksum_c kk hkk w w2 k gi gg _ _ _ hn'.out hR'.out hK2'.out).mono ?_
  rintro e w3 ⟨rfl, hb3⟩
  have hb3' := Lib.hid hb3
  clear hb3
  go_wp2_with fail
  go_ret
  exact ⟨rfl, hb3'.out⟩

set_option maxRecDepth 100000 in
set_option maxHeartbeats 4000000 in
theorem extract_c (kk : List Int) (hkk : kk.length = 64) (key s : ByteArray) (w : World) (hk : key.size < 1152921504606846976) (hn : 64 + s.size < 1152921504606846976) (hR : Rw kk w) :
    Calls Tryz.prog 93 #[.string key, .string s] w fun e w' => e = .returned (.string (hm kk key [s])) ∧ Below w.heap.size w w' := by
  have hn' := Lib.hid hn
  have hR' := Lib.hid hR
  have hk' := Lib.hid hk
  clear hn hR hk
  go_enter Tryz.func93, Tryz.ntmps93
  have hb1' := Lib.hid (below_alloc w (.cells #[.string s] 9 (0, 0)))
  go_wp2_with (go_at_call 80; refine (macOf_c kk hkk key w.heap.size [s] 1 _ hk'.out (by rw [tot_one]; exact hn'.out) (by simp) (Rw_kept hR'.out (gb_of hb1'.out) (by simp)) ⟨_, _, heap_alloc_new w _⟩).mono ?_; rintro e w2 ⟨rfl, hb2⟩; have hb2' := Lib.hid hb2; clear hb2)
  go_ret
  exact ⟨rfl, hb1'.out.trans (hb2'.out.mono (by simp))⟩
end Go.Proofs.YtgdcafbdkidamaaGreatDoor.K6
end
section
namespace Go.Proofs.YtgdcafbdkidamaaGreatDoor.K8
open Go Go.RowKit Go.Shelf Go.Proofs.YtgdcafbdkidamaaGreatDoorW.PrintWords Go.Proofs.YtgdcafbdkidamaaGreatDoorW.PrintLast Go.Proofs.YtgdcafbdkidamaaGreatDoorW.PrintMore Go.Proofs.YtgdcafbdkidamaaGreatDoor.K0 Go.Proofs.YtgdcafbdkidamaaGreatDoor.K2 Go.Proofs.YtgdcafbdkidamaaGreatDoor.K3 Go.Proofs.YtgdcafbdkidamaaGreatDoor.K4 Go.Proofs.YtgdcafbdkidamaaGreatDoor.K5 Go.Proofs.YtgdcafbdkidamaaGreatDoor.K6 Go.Proofs.YtgdcafbdkidamaaGreatDoor.Kp
set_option linter.unusedVariables false
set_option linter.unusedSimpArgs false
/-- one byte as a text -/
theorem str1 (w : World) (x : Int) : (convert 46 9 (.slice (some ⟨w.heap.size, 0, none⟩) 1 1)).run Tryz.prog (w.alloc (.cells #[.int .u8 x] 5 (0, 0))) = .ok (.string (strOfNums [x])) (w.alloc (.cells #[.int .u8 x] 5 (0, 0))) :=
  own_string (P := Tryz.prog) (base := 0) (n := 1) Tryz.underlying46 Tryz.underlying5 Tryz.underlying9 (xs := [x])
    ⟨rfl, .inr ⟨w.heap.size, 1, _, rfl, Nat.zero_le _, heap_alloc_new w _, Nat.le_refl _, by unfold maxLen; decide, rfl, rfl⟩⟩
theorem hm_size (kk : List Int) (key : ByteArray) (xs : List ByteArray) : (hm kk key xs).size = 32 := by unfold hm mac; exact fin_size _ _ _
/-- the pieces of Expand, and what they are together -/
def tE (kk : List Int) (key info : ByteArray) : Nat → ByteArray
  | 0 => ⟨#[]⟩
  | j + 1 => hm kk key [tE kk key info j, info, strOfNums [1 + (j : Int)]]
def oE (kk : List Int) (key info : ByteArray) : Nat → List UInt8
  | 0 => []
  | j + 1 => oE kk key info j ++ (tE kk key info (j + 1)).data.toList
theorem tE_size (kk : List Int) (key info : ByteArray) (j : Nat) : (tE kk key info j).size ≤ 32 := by
  cases j with
  | zero => exact Nat.zero_le _
  | succ j => rw [tE, hm_size]; exact Nat.le_refl _
theorem oE_len (kk : List Int) (key info : ByteArray) : ∀ j, (oE kk key info j).length = 32 * j
  | 0 => rfl
  | j + 1 => by
    rw [oE, List.length_append, oE_len kk key info j]
    show 32 * j + (tE kk key info (j + 1)).size = _
    rw [tE, hm_size]; omega

set_option maxRecDepth 100000 in
set_option maxHeartbeats 4000000 in
theorem expand_c (kk : List Int) (hkk : kk.length = 64) (key info : ByteArray) (n : Nat) (hn : n ≤ 8160) (hk : key.size < 1152921504606846976) (hi : info.size < 576460752303423488) (w : World) (hR : Rw kk w) :
    Calls Tryz.prog 94 #[.string key, .string info, .int .i64 n] w fun e w' => ∃ m : Nat, e = .returned (.tuple #[.string ⟨((oE kk key info m).take n).toArray⟩, .bool true]) ∧ n ≤ 32 * m ∧ 32 * m < n + 32 ∧ Below w.heap.size w w' := by
  have hR' := Lib.hid hR
  have hk' := Lib.hid hk
  have hi' := Lib.hid hi
  clear hR hk hi
  have hn2 : (n : Int) ≤ 8160 := by omega
  have hn3 : (0 : Int) ≤ (n : Int) := by omega
  go_enter Tryz.func94, Tryz.ntmps94
  go_wp2_with fail
  have hbd' := Lib.hid (bd_new w)
  have hbl' := Lib.hid (below_alloc w (.cells #[.pointer none, .slice none 0 0] 160 (0, 0)))
  go_loopw [9, 10] (fun v i wr => ∃ j : Nat, i = .int .i64 (1 + j) ∧ v = .string (tE kk key info j) ∧ 32 * j < n + 32 ∧ Bd wr w.heap.size w.heap.size (oE kk key info j) ∧ Below w.heap.size w wr) (fun _ i _ => (400 - intOf i).toNat)
  case atStart => exact ⟨0, rfl, rfl, by omega, hbd'.out, hbl'.out⟩
  case round =>
    clear hbd' hbl'
    obtain ⟨j, rfl, rfl, hj, hD, hb⟩ := hrel
    have hws := hb.size
    have hl := len_c w.heap.size w.heap.size (oE kk key info j) wr hD
    rw [oE_len] at hl
    have hl' := Lib.hid hl
    have hD' := Lib.hid hD
    have hb' := Lib.hid hb
    clear hD hb hl
    by_cases hlt : 32 * j < n
    · have hlt2 : ((32 * j : Nat) : Int) < (n : Int) := by omega
      have hj2 : (j : Int) < 255 := by omega
      have hs1 := str1 wr (1 + (j : Int))
      have hts := tE_size kk key info j
      generalize ht : tE kk key info j = t at *
      have ht' := Lib.hid ht
      have htot : 64 + tot [t, info, strOfNums [1 + (j : Int)]] < 1152921504606846976 := by
        have := hi'.out
        have e1 : (strOfNums [1 + (j : Int)]).size = 1 := rfl
        simp only [tot, List.map_cons, List.map_nil, List.sum_cons, List.sum_nil, e1]; omega
      have htot' := Lib.hid htot
      clear ht hts htot
      go_wp2_with (go_at_call 131; (with_reducible refine hl'.out.mono ?_); rintro e w2 ⟨rfl, hw2⟩; obtain rfl := hw2.symm)
      go_at_call 80
      have hb2 := (hb'.out.trans ((below_alloc wr (.cells #[.int .u8 (1 + (j : Int))] 5 (0, 0))).mono hws)).trans ((below_alloc (wr.alloc (.cells #[.int .u8 (1 + (j : Int))] 5 (0, 0))) (.cells #[.string t, .string info, .string (strOfNums [1 + (j : Int)])] 9 (0, 0))).mono (by simp; omega))
      have hb3 := (below_alloc wr (.cells #[.int .u8 (1 + (j : Int))] 5 (0, 0))).trans ((below_alloc (wr.alloc (.cells #[.int .u8 (1 + (j : Int))] 5 (0, 0))) (.cells #[.string t, .string info, .string (strOfNums [1 + (j : Int)])] 9 (0, 0))).mono (by simp))
      refine (macOf_c kk hkk key (wr.heap.size + 1) [t, info, strOfNums [1 + (j : Int)]] 3 _ hk'.out htot'.out (by simp) (Rw_kept hR'.out (gb_of hb2) (by simp)) ⟨_, _, heap_alloc2_new wr _ _⟩).mono ?_
      rintro e w3 ⟨rfl, hb4⟩
      have hD3 := Lib.hid ((hD'.out.below hb3).below hb4)
      have hb5 := Lib.hid (hb2.trans (hb4.mono (by simp; omega)))
      have hws3 := hb5.out.size
      have htn : hm kk key [t, info, strOfNums [1 + (j : Int)]] = tE kk key info (j + 1) := by rw [tE, ht'.out]
      generalize hm kk key [t, info, strOfNums [1 + (j : Int)]] = t2 at *
      have htn' := Lib.hid htn
      have hwc := Lib.hid (wstr_c w.heap.size w.heap.size (oE kk key info j) t2 w3 hD3.out (by rw [oE_len, htn]; have := tE_size kk key info (j + 1); omega) hws3)
      clear hb2 hb3 hb4 hs1 htn
      go_wp2_with (go_at_call 132; (with_reducible refine hwc.out.mono ?_); rintro e w4 ⟨rfl, hD4, hb6, ho6⟩; have hD4' := Lib.hid hD4; have hb6' := Lib.hid hb6; clear hD4 hb6 ho6)
      go_roundw
      case rel =>
        refine ⟨j + 1, by go_num, by rw [htn'.out], by omega, ?_, hb5.out.trans hb6'.out⟩
        have h4 := hD4'.out
        rw [htn'.out] at h4
        exact h4
      case measure => simp [intOf]; omega
    · have hlt2 : ¬ ((32 * j : Nat) : Int) < (n : Int) := by omega
      have hstr := str_c w.heap.size w.heap.size (oE kk key info j) wr hD'.out hws
      have hls : (⟨(oE kk key info j).toArray⟩ : ByteArray).size = 32 * j := by show (oE kk key info j).toArray.size = _; rw [List.size_toArray, oE_len]
      have hex : (⟨(oE kk key info j).toArray⟩ : ByteArray).extract 0 n = ⟨((oE kk key info j).take n).toArray⟩ := by rw [ByteArray.extract_mk]; simp
      generalize hz : (⟨(oE kk key info j).toArray⟩ : ByteArray) = z at *
      have hz1 : (n : Int) ≤ (z.size : Int) := by rw [hls]; omega
      have hz' := Lib.hid hz
      have hex' := Lib.hid hex
      have hstr' := Lib.hid hstr
      clear hz hls hex hstr
      go_wp2_with (first | (go_at_call 131; (with_reducible refine hl'.out.mono ?_); rintro e w2 ⟨rfl, hw2⟩; obtain rfl := hw2.symm) | (go_at_call 127; (with_reducible refine hstr'.out.mono ?_); rintro e w3 ⟨rfl, hD4, hb6, ho6⟩; have hb6' := Lib.hid hb6; clear hD4 hb6 ho6))
      go_ret2
      have he := hex'.out
      refine ⟨j, ?_, by omega, hj, hb'.out.trans hb6'.out⟩
      rw [← he]; rfl
set_option maxRecDepth 100000 in
set_option maxHeartbeats 4000000 in
theorem expand_no (key info : ByteArray) (n : Int) (hn : n < 0 ∨ 8160 < n) (w : World) :
    Calls Tryz.prog 94 #[.string key, .string info, .int .i64 n] w fun e w' => e = .returned (.tuple #[.string ⟨#[]⟩, .bool false]) ∧ w' = w := by
  rcases hn with h | h
  · go_enter Tryz.func94, Tryz.ntmps94
    go_wp2_with fail
    go_ret2
    exact ⟨rfl, rfl⟩
  · have h2 : ¬ n < 0 := by omega
    go_enter Tryz.func94, Tryz.ntmps94
    go_wp2_with fail
    go_ret2
    exact ⟨rfl, rfl⟩
end Go.Proofs.YtgdcafbdkidamaaGreatDoor.K8
end
section
namespace Go.Proofs.YtgdcafbdkidamaaGreatDoor.KH2
open Go Go.RowKit Go.Proofs.YtgdcafbdkidamaaGreatDoorW.PrintWords Go.Proofs.YtgdcafbdkidamaaGreatDoorW.PrintLast Go.Proofs.YtgdcafbdkidamaaGreatDoorW.PrintMore Go.Proofs.YtgdcafbdkidamaaGreatDoor.G2
/-- a keyed hash -/
def hm1 (key s : ByteArray) : ByteArray := K6.hm Ks.kk key [s]
def impl_Extract.f (a b : ByteArray) : Option ByteArray := if a.size < 274877906944 then if b.size < 274877906944 then some (hm1 a b) else none else none
theorem impl_Extract.calls (a b : ByteArray) (r : ByteArray) (w : World) (hG : G w) (h : impl_Extract.f a b = some r) :
    Calls Tryz.prog 93 #[.string a, .string b] w fun e w' => e = .returned (.string r) ∧ Below w.heap.size w w' := by
  unfold impl_Extract.f at h
  split at h
  · split at h
    · obtain rfl := Option.some.inj h
      exact K6.extract_c Ks.kk Ks.kk_len a b w (by omega) (by omega) hG
    · cases h
  · cases h
def exp1 (key info : ByteArray) (n : Nat) : ByteArray := ⟨((K8.oE Ks.kk key info ((n + 31) / 32)).take n).toArray⟩
def impl_Expand.f (a b : ByteArray) (n : Int) : Option (ByteArray × Bool) :=
  if n < 0 then some (⟨#[]⟩, false) else if 8160 < n then some (⟨#[]⟩, false) else if a.size < 274877906944 then if b.size < 274877906944 then some (exp1 a b n.toNat, true) else none else none
theorem impl_Expand.calls (a b : ByteArray) (n : Int) (r1 : ByteArray) (r2 : Bool) (w : World) (hG : G w) (h : impl_Expand.f a b n = some (r1, r2)) :
    Calls Tryz.prog 94 #[.string a, .string b, .int .i64 n] w fun e w' => e = .returned (.tuple #[.string r1, .bool r2]) ∧ Below w.heap.size w w' := by
  unfold impl_Expand.f at h
  split at h
  · obtain ⟨rfl, rfl⟩ := Prod.mk.inj (Option.some.inj h)
    exact (K8.expand_no a b n (.inl (by assumption)) w).mono fun e w' ⟨he, hw⟩ => ⟨he, by rw [hw]; exact Below.refl _ _⟩
  · split at h
    · obtain ⟨rfl, rfl⟩ := Prod.mk.inj (Option.some.inj h)
      exact (K8.expand_no a b n (.inr (by assumption)) w).mono fun e w' ⟨he, hw⟩ => ⟨he, by rw [hw]; exact Below.refl _ _⟩
    · split at h
      · split at h
        · obtain ⟨rfl, rfl⟩ := Prod.mk.inj (Option.some.inj h)
          obtain ⟨m, rfl⟩ := Int.eq_ofNat_of_zero_le (a := n) (by omega)
          refine (K8.expand_c Ks.kk Ks.kk_len a b m (by omega) (by omega) (by omega) w hG).mono fun e w' ⟨q, he, h1, h2, h3⟩ => ⟨?_, h3⟩
          rw [he, exp1, Int.toNat_natCast, show q = (m + 31) / 32 by omega]
        · cases h
      · cases h
end Go.Proofs.YtgdcafbdkidamaaGreatDoor.KH2
end
section
namespace Go.Proofs.YtgdcafbdkidamaaGreatDoor.G3
open Go Go.RowKit
structure G (w : World) : Prop where
  z : G1.G w
  r : G2.G w
theorem G_below {w W : World} (h : Below w.heap.size w W) (hG : G w) : G W := ⟨G1.G_below h hG.z, G2.G_below h hG.r⟩
instance {w : World} : Coe (G w) (G1.G w) := ⟨G.z⟩
instance {w : World} : Coe (G w) (G2.G w) := ⟨G.r⟩
end Go.Proofs.YtgdcafbdkidamaaGreatDoor.G3
end
