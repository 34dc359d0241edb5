/- What the proof of FnExactHashToGroup leans on, part 23: cut out of the texts of this claim's making by a program (wip/tools/pack.py). -/
import Derived.Test.YtoejhekppfgmpaaDoorKHashToGroup6
import Derived.Test.YtoejhekppfgmpaaDoorKHashToGroup11
import Derived.Test.YtoejhekppfgmpaaDoorKHashToGroup12
import Derived.Test.YtoejhekppfgmpaaDoorKHashToGroup13
import Derived.Test.YtoejhekppfgmpaaDoorKHashToGroup14
import Derived.Test.YtoejhekppfgmpaaDoorKHashToGroup17
import Derived.Test.YtoejhekppfgmpaaDoorKHashToGroup22
import Derived.Deep.AppendLies
import Derived.Deep.RegionHeld3
import Derived.KernelRfl
import Derived.Laws.Tables
import Derived.Lib.ConvBytes
import Derived.Lib.FrozenHead2
import Derived.Lib.Hide
import Derived.LoopTactic
import Derived.Outline
import Derived.StillTailTactics
import Derived.WalkSpells
section
namespace Go.Proofs.YtoejhekppfgmpaaDoor.Kp
open Go Go.RowKit Go.Shelf Go.Proofs.YtoejhekppfgmpaaDoorW.PrintWords Go.Proofs.YtoejhekppfgmpaaDoorW.PrintLast Go.Proofs.YtoejhekppfgmpaaDoorW.PrintMore Go.Proofs.YtoejhekppfgmpaaDoor.K0 Go.Proofs.YtoejhekppfgmpaaDoor.K2 Go.Proofs.YtoejhekppfgmpaaDoor.K3 Go.Proofs.YtoejhekppfgmpaaDoor.K4 Go.Proofs.YtoejhekppfgmpaaDoor.K5 Go.Proofs.YtoejhekppfgmpaaDoor.B
set_option linter.unusedVariables false
set_option linter.unusedSimpArgs false
/-- a slice of bytes in a row of the call's own, whatever the row's mark, so none of the cells behind the elements is frozen -/
def OwnM (w : World) (B : Nat) (v : Value) (xs : List Int) : Prop :=
  ∃ g cap cur fz, v = .slice (some ⟨g, 0, none⟩) xs.length cap ∧ B ≤ g ∧ w.heap[g]? = some (.cells cur 5 fz) ∧ (∀ j, xs.length ≤ j → j < cap → ¬ (fz.1 ≤ j ∧ j < fz.2)) ∧ xs.length ≤ cap ∧ cap ≤ maxLen ∧ cur.size = cap ∧ cur.toList.take xs.length = c8 xs
theorem OwnM.below {w w' : World} {B : Nat} {v : Value} {xs : List Int} (h : OwnM w B v xs) (hb : Below w.heap.size w w') : OwnM w' B v xs := by
  obtain ⟨g, cap, cur, fz, h1, h2, h3, h4⟩ := h
  exact ⟨g, cap, cur, fz, h1, h2, (hb.block _ (Array.getElem?_eq_some_iff.1 h3).1).trans h3, h4⟩
theorem OwnM.cells {w : World} {B : Nat} {v : Value} {xs : List Int} (h : OwnM w B v xs) : ∃ g cap, v = .slice (some ⟨g, 0, none⟩) xs.length cap ∧ xs.length ≤ cap ∧ xs.length ≤ maxLen ∧ ∀ j, j < xs.length → w.cell? ⟨g, j, none⟩ = some (.int .u8 (rd xs j)) := by
  obtain ⟨g, cap, cur, fz, h1, h2, h3, h4, h5, h6, h7, h8⟩ := h
  refine ⟨g, cap, h1, h5, Nat.le_trans h5 h6, fun j hj => ?_⟩
  rw [cell_of_row w g j _ _ _ h3, ← Array.getElem?_toList]
  have e : (cur.toList.take xs.length)[j]? = cur.toList[j]? := by rw [List.getElem?_take, if_pos hj]
  rw [← e, h8, c8_get hj]
/-- .. read as the print reads it -/
theorem OwnM.read {w : World} {B : Nat} {v : Value} {xs : List Int} (h : OwnM w B v xs) : ∃ A c, v = .slice A xs.length c ∧ xs.length ≤ c ∧ (Kd.int .u8).C w A xs.length xs := by
  obtain ⟨g, cap, h1, h5, h6, hc⟩ := h.cells
  refine ⟨_, cap, h1, h5, ⟨rfl, by unfold maxLen at h6; omega, fun _ => ⟨⟨g, 0, none⟩, rfl, fun j p hj => ⟨[.int .u8 p], rfl, rfl, fun i u hu => ?_⟩⟩⟩⟩
  obtain ⟨hjl, hp⟩ := List.getElem?_eq_some_iff.1 hj
  cases i with
  | zero =>
    simp only [List.getElem?_cons_zero, Option.some.injEq] at hu
    subst hu
    have e : rd xs j = p := by unfold rd; simp [List.getD_eq_getElem?_getD, hjl, hp]
    rw [show j * (Kd.int .u8).sz + 0 = j from by show j * 1 + 0 = j; omega, add_plain, hc j hjl, e]
  | succ i => simp at hu

theorem run_append1 (w : World) (B : Nat) (ty : TypeId) (v : Value) (xs : List Int) (h : OwnM w B v xs) (a : Addr) (c : Nat) (x : Int) (hx : w.cell? a = some (.int .u8 x)) (hn : xs.length < 1152921504606846976 / 8192) (hB : B ≤ w.heap.size) :
    ∃ v' w', (Builtin.append_ #[22, 22] ty #[v, .slice (some a) 1 c]).run Tryd.prog w = .ok v' w' ∧ OwnM w' B v' (xs ++ [x]) ∧ Below B w w' := by
  obtain ⟨g, cap, cur, fz, rfl, hg, h3, h4, h5, h6, h7, h8⟩ := h
  have ht := Tryd.underlying22
  obtain ⟨i, hi, hz0, hz1, hz2⟩ := info_parts (show (Tryd.prog.info? 5).map (fun i => (i.zero, i.size, i.bytes)) = some (some (.int .u8 0), 1, 1) by kernel_rfl)
  have hnews : ∀ (j : Nat) (u : Value), ([Value.int .u8 x] : List Value)[j]? = some u → w.cell? (a.add j) = some u := by
    intro j u hu
    cases j with
    | zero => simp only [List.getElem?_cons_zero, Option.some.injEq] at hu; subst hu; rw [Addr.add_zero']; exact hx
    | succ j => simp at hu
  by_cases hroom : xs.length + 1 ≤ cap
  · have hf := run_firstCells_some (P := Tryd.prog) w i.size 1 a 1 c [.int .u8 x] (by simp [hz1]) hnews
    rw [hz1] at hf
    have hcell : w.cell? ⟨g, xs.length, none⟩ = some cur[xs.length] := by
      have hlt : xs.length < cur.size := by omega
      simp [World.cell?, h3, hlt]
    have hfro : w.frozen? ⟨g, xs.length, none⟩ = false := by
      have := h4 xs.length (Nat.le_refl _) (by omega)
      simp only [World.frozen?, h3, Bool.and_eq_false_iff, decide_eq_false_iff_not]
      rcases Nat.lt_or_ge xs.length fz.1 with h | h
      · left; omega
      · right; intro h'; exact this ⟨h, h'⟩
    have hst : (storeCells ⟨g, xs.length, none⟩ [Value.int .u8 x] 0).run Tryd.prog w = .ok () (w.setCell ⟨g, xs.length, none⟩ (.int .u8 x)) := by
      simp only [storeCells, Sem.run_bind, Addr.add_zero', run_store Tryd.prog w _ (.int .u8 x) _ rfl, hcell]
      simp [hfro]
    refine ⟨.slice (some ⟨g, 0, none⟩) (xs.length + 1) cap, w.setCell ⟨g, xs.length, none⟩ (.int .u8 x), ?_, ⟨g, cap, cur.setIfInBounds xs.length (.int .u8 x), fz, by simp, hg, ?_, ?_, by simp; omega, h6, by simp [h7], ?_⟩, (Below.refl _ _).setCell hg _⟩
    · simp [Builtin.append_, run_underlying ht, sizeOf, typeInfo, hi, hz1, Builtin.lenOf, hroom, hf, Addr.add_lit, hst]
    · have := setCell_eq_setRow w g xs.length cur 5 fz (.int .u8 x) h3
      rw [this]
      exact setRow_heap w g _ _ _ _ h3
    · intro j hj hj'
      rw [List.length_append, List.length_singleton] at hj
      exact h4 j (by omega) hj'
    · have hlc : cur.toList.length = cap := Array.length_toList.trans h7
      have hlt : xs.length < cur.toList.length := by omega
      rw [Array.toList_setIfInBounds, List.length_append, List.length_singleton, List.take_succ_eq_append_getElem (by rw [List.length_set]; exact hlt), List.take_set_of_le (Nat.le_refl _), h8, List.getElem_set_self, c8_app]
      rfl
  · have holds : ∀ (j : Nat) (u : Value), (c8 xs)[j]? = some u → w.cell? ((⟨g, 0, none⟩ : Addr).add j) = some u := by
      intro j u hu
      rw [add_plain, cell_of_row w g j _ _ _ h3, ← Array.getElem?_toList]
      rw [← h8, List.getElem?_take] at hu
      split at hu
      · exact hu
      · cases hu
    have hr := run_append_grow (P := Tryd.prog) w 22 ty 5 i (.int .u8 0) ht hi hz0 ⟨g, 0, none⟩ xs.length cap (c8 xs) (by rw [c8_len, hz1, Nat.mul_one]) holds a 1 c [.int .u8 x] (by simp [hz1]) hnews (by omega) (by omega) (growslice_fits (by omega) (by rw [hz2]; omega))
    have hge := grownCap_ge w (xs.length + 1) cap 5
    have hcm2 : grownCap w (xs.length + 1) cap 5 ≤ maxLen := grownCap_le_maxLen w (xs.length + 1) cap 5 (by unfold maxLen; omega)
    refine ⟨_, _, hr, ⟨w.heap.size, _, _, (0, 0), by simp, hB, heap_alloc_new w.drew _, fun j _ _ => by simp, by simpa using hge, hcm2, ?_, ?_⟩, ⟨rfl, rfl, rfl, by simp, fun k hk => heap_alloc_old w.drew _ (by show k < w.heap.size; omega)⟩⟩
    · simp only [Array.size_append, List.size_toArray, size_zeroCells, c8_len, List.length_singleton]
      show _ + 1 + _ * 1 = _
      omega
    · simp only [Array.toList_append, List.append_assoc]
      rw [← List.append_assoc, show c8 xs ++ [Value.int .u8 x] = c8 (xs ++ [x]) from by rw [c8_app]; rfl, List.take_left' (c8_len _)]
theorem wpList_append1 {w : World} {ops : Array Oper} {rest : List Oper} {o : Oper} {a : Act} {Q : Exit → Act → World → Prop} (hgd : o.guard = none) (s y : Operand)
    (ho : o.op = .call { callee := .builtin .append, args := #[s, y], argTypes := #[22, 22] }) (B : Nat) (v : Value) (xs : List Int) (hs : a.eval s = v) (h : OwnM w B v xs) (ad : Addr) (c : Nat) (x : Int)
    (hy : a.eval y = .slice (some ad) 1 c) (hx : w.cell? ad = some (.int .u8 x)) (hn : xs.length < 1152921504606846976 / 8192) (hB : B ≤ w.heap.size)
    (K : ∀ v' w', OwnM w' B v' (xs ++ [x]) → Below B w w' → wpList Tryd.prog ops Q rest (a.put o.dst v') w') : wpList Tryd.prog ops Q (o :: rest) a w := by
  refine wpList_plain hgd fun K' hK => ?_
  obtain ⟨v', w', hr, h2, h3⟩ := run_append1 w B o.type v xs h ad c x hx hn hB
  unfold Oper.wp execOp
  simp only [ho, resolve, invoke, builtin, Sem.run_bind, Sem.run_pure, Result.andThen_ok, List.map_toArray, List.map_cons, List.map_nil, hs, hy, hr]
  exact hK _ _ (K v' w' h2 h3)
/-- a text as bytes -/
theorem own_bytes (w : World) (s : ByteArray) (hs : s.size ≤ maxLen) : OwnM (Lib.bytesWorld w 5 s) w.heap.size (.slice (some ⟨w.heap.size, 0, none⟩) s.size (grownCap w s.size 0 5)) (sb s) := by
  have hge := grownCap_ge w s.size 0 5
  have hsz : (Lib.bytesCells w 5 s).size = grownCap w s.size 0 5 := by
    unfold Lib.bytesCells
    rw [Array.size_append, Array.size_map, Array.size_replicate]
    show s.size + _ = _
    omega
  refine ⟨w.heap.size, _, _, _, by rw [sb_len], Nat.le_refl _, Lib.bytesWorld_at_new w _ s, ?_, by rw [sb_len]; exact hge, grownCap_le_maxLen w s.size 0 5 hs, hsz, ?_⟩
  · intro j _ hj h
    rw [hsz] at h
    omega
  · unfold Lib.bytesCells
    rw [Array.toList_append, Array.toList_map, List.take_left' (by rw [List.length_map, sb_len]; rfl)]
    unfold c8 sb
    rw [List.map_map]
    rfl
theorem bytes_below (w : World) (s : ByteArray) : Below w.heap.size w (Lib.bytesWorld w 5 s) :=
  ⟨rfl, rfl, rfl, by rw [Lib.bytesWorld_size]; omega, fun k hk => Lib.bytesWorld_at_old w _ s k hk⟩
end Go.Proofs.YtoejhekppfgmpaaDoor.Kp
end
section
namespace Go.Proofs.YtoejhekppfgmpaaDoor.Kp
open Go Go.RowKit Go.Shelf Go.Proofs.YtoejhekppfgmpaaDoorW.PrintWords Go.Proofs.YtoejhekppfgmpaaDoorW.PrintLast Go.Proofs.YtoejhekppfgmpaaDoorW.PrintMore Go.Proofs.YtoejhekppfgmpaaDoor.K0 Go.Proofs.YtoejhekppfgmpaaDoor.K2 Go.Proofs.YtoejhekppfgmpaaDoor.K3 Go.Proofs.YtoejhekppfgmpaaDoor.K4 Go.Proofs.YtoejhekppfgmpaaDoor.K5 Go.Proofs.YtoejhekppfgmpaaDoor.B
set_option linter.unusedVariables false
set_option linter.unusedSimpArgs false
/-- the padded text -/
def padL (s : ByteArray) : List Int := (sb s ++ Sh.pad s.size) ++ b8 ((s.size : Int) * 8)
def pz (s : ByteArray) (k : Nat) : List Int := sb s ++ (128 :: List.replicate k 0)
theorem pz_len (s : ByteArray) (k : Nat) : (pz s k).length = s.size + (1 + k) := by unfold pz; simp [sb_len]; omega
theorem pz_succ (s : ByteArray) (k : Nat) : pz s k ++ [0] = pz s (k + 1) := by unfold pz; rw [List.append_assoc, List.replicate_succ']; rfl
theorem newcell (w : World) (x : Value) : (w.alloc (.cells #[x] 5 (0, 0))).cell? ⟨w.heap.size, 0, none⟩ = some x := (cell_of_row _ _ 0 _ _ _ (heap_alloc_new w _)).trans rfl

set_option maxRecDepth 100000 in
set_option maxHeartbeats 4000000 in
theorem padded_c (s : ByteArray) (hs : s.size < 70368744177664) (w : World) :
    Calls Tryd.prog 152 #[.string s] w fun e w' => ∃ v, e = .returned v ∧ OwnM w' w.heap.size v (padL s) ∧ Below w.heap.size w w' := by
  obtain ⟨n, hn⟩ : ∃ n, n = s.size := ⟨_, rfl⟩
  obtain ⟨c, hcd⟩ : ∃ c, (119 - n % 64) % 64 = c := ⟨_, rfl⟩
  have hO0 := Lib.hid (own_bytes w s (by unfold maxLen; omega))
  have hb0 := Lib.hid (bytes_below w s)
  have hsz0 := Lib.hid (Lib.bytesWorld_size w 5 s)
  have hcv := Lib.run_convert_string_bytes (P := Tryd.prog) w 9 22 5 s Tryd.underlying9 Tryd.underlying22 Tryd.underlying5
  generalize Lib.bytesWorld w 5 s = w1 at *
  generalize grownCap w s.size 0 5 = cap0 at *
  have hn' := Lib.hid hn
  have hcd' := Lib.hid hcd
  clear hn hcd
  go_enter Tryd.func152, Tryd.ntmps152
  have hwv := hb0.out.size
  go_wp2_with (refine wpList_append1 rfl (.tmp 8) (.tmp 9) rfl w.heap.size _ _ rfl (hO0.out.below (below_alloc w1 _)) ⟨w1.heap.size, 0, none⟩ 1 128 rfl (newcell w1 _) (by rw [sb_len]; omega) (by simp; omega) ?_; intro v2 w2 hO2 hb2; have hO2' := Lib.hid hO2; have hb2' := Lib.hid hb2; clear hO2 hb2)
  clear hcv
  go_loopw [3] (fun v wr => ∃ k : Nat, k ≤ c ∧ OwnM wr w.heap.size v (pz s k) ∧ Below w.heap.size w wr) (fun v _ => match v with | .slice _ l _ => n + 1 + c - l | _ => 0)
  case atStart => exact ⟨0, by omega, hO2'.out, (hb0.out.trans ((below_alloc w1 _).mono hwv)).trans hb2'.out⟩
  case round =>
    clear hO2' hb2' hO0 hb0 hsz0
    obtain ⟨k, hk, hO, hb⟩ := hrel
    have hO' := Lib.hid hO
    have hb' := Lib.hid hb
    have hwv2 := hb.size
    obtain ⟨g, cap, rfl, hc1, hc2, hc3⟩ := hO.cells
    have hpl := pz_len s k
    rw [← hn'.out] at hpl
    clear hO hb hc3
    generalize hL : (pz s k).length = L at *
    have hL' := Lib.hid hL
    have hcd := hcd'.out
    have hm0 : (0 : Int) ≤ (L : Int) := by omega
    clear hL
    unfold maxLen at hc2
    have hnn := hn'.out
    have hLb : L < 70368744187664 := by omega
    by_cases hlt : k < c
    · have hq : ((L : Int) % 64 != 56) = true := by rw [bne_iff_ne]; omega
      have hnl : (pz s k).length < 1152921504606846976 / 8192 := by rw [hL'.out]; omega
      have hnl' := Lib.hid hnl
      have hpl' := Lib.hid hpl
      clear hnl hcd hpl hnn
      go_wp2_with (refine wpList_append1 rfl (.tmp 15) (.tmp 16) rfl w.heap.size _ _ rfl (hO'.out.below (below_alloc wr _)) ⟨wr.heap.size, 0, none⟩ 1 0 rfl (newcell wr _) hnl'.out (by simp; omega) ?_; intro v3 w3 hO3 hb3; have hO3' := Lib.hid hO3; have hb3' := Lib.hid hb3; clear hO3 hb3)
      go_roundw
      case rel =>
        have h3 := hO3'.out
        rw [pz_succ] at h3
        exact ⟨k + 1, by omega, h3, (hb'.out.trans ((below_alloc wr _).mono hwv2)).trans hb3'.out⟩
      case measure =>
        obtain ⟨g3, cap3, rfl, _⟩ := hO3'.out.cells
        simp only [List.length_append, List.length_singleton, hL'.out]
        have := hpl'.out
        omega
    · have hq : ((L : Int) % 64 != 56) = false := by rw [bne_eq_false_iff_eq]; omega
      have hpl' := Lib.hid hpl
      have hkc := Lib.hid (show k = c by omega)
      clear hcd hpl hnn
      go_wp2_with fail
      have hcL := hkc.out
      subst hcL
      clear hlt hq
      generalize hX : (s.size : Int) * 8 = X
      have hX' := Lib.hid hX
      clear hX
      go_loopw [3, 5] (fun v i wr => ∃ j : Nat, j ≤ 8 ∧ i = .int .i64 (7 - j) ∧ OwnM wr w.heap.size v (pz s k ++ (b8 X).take j) ∧ Below w.heap.size w wr) (fun _ i _ => (intOf i + 1).toNat)
      case atStart => exact ⟨0, by omega, rfl, by simpa using hO'.out, hb'.out⟩
      case round =>
        clear hO' hb'
        obtain ⟨j, hj, rfl, hO, hb⟩ := hrel
        have hO' := Lib.hid hO
        have hb' := Lib.hid hb
        have hwv3 := hb.size
        obtain ⟨g2, cap2, rfl, hc4, hc5, hc6⟩ := hO.cells
        clear hO hb hc6 hc4 hc5
        have hlen : (pz s k ++ (b8 X).take j).length = L + j := by rw [List.length_append, hL'.out, List.length_take]; show L + min j 8 = _; omega
        have hlen' := Lib.hid hlen
        have hnl : (pz s k ++ (b8 X).take j).length < 1152921504606846976 / 8192 := by rw [hlen]; omega
        have hnl' := Lib.hid hnl
        clear hlen hnl
        generalize hM : (pz s k ++ (b8 X).take j).length = M at *
        have hM' := Lib.hid hM
        clear hM
        by_cases hlt : j < 8
        · obtain rfl | rfl | rfl | rfl | rfl | rfl | rfl | rfl : j = 0 ∨ j = 1 ∨ j = 2 ∨ j = 3 ∨ j = 4 ∨ j = 5 ∨ j = 6 ∨ j = 7 := by omega
          all_goals
            go_wp2_with (refine wpList_append1 rfl (.tmp 26) (.tmp 33) rfl w.heap.size _ _ rfl (hO'.out.below (below_alloc wr _)) ⟨wr.heap.size, 0, none⟩ 1 _ rfl (newcell wr _) (by rw [hM'.out]; exact hnl'.out) (by simp; omega) ?_; intro v3 w3 hO3 hb3; have hO3' := Lib.hid hO3; have hb3' := Lib.hid hb3; clear hO3 hb3)
            go_roundw
            case rel =>
              have h3 := hO3'.out
              rw [List.append_assoc] at h3
              have h4 := (hb'.out.trans ((below_alloc wr _).mono hwv3)).trans hb3'.out
              first | exact ⟨1, by decide, rfl, h3, h4⟩ | exact ⟨2, by decide, rfl, h3, h4⟩ | exact ⟨3, by decide, rfl, h3, h4⟩ | exact ⟨4, by decide, rfl, h3, h4⟩ | exact ⟨5, by decide, rfl, h3, h4⟩ | exact ⟨6, by decide, rfl, h3, h4⟩ | exact ⟨7, by decide, rfl, h3, h4⟩ | exact ⟨8, by decide, rfl, h3, h4⟩
            case measure => simp [intOf]
        · obtain rfl : j = 8 := by omega
          go_wp2_with fail
          go_ret
          refine ⟨_, rfl, ?_, hb'.out⟩
          have h3 := hO'.out
          rw [show (b8 X).take 8 = b8 X from rfl] at h3
          unfold padL
          have e1 : sb s ++ Sh.pad s.size = pz s k := by unfold Sh.pad pz; rw [← hn'.out, hcd'.out]
          rw [e1, hX'.out]
          exact h3
end Go.Proofs.YtoejhekppfgmpaaDoor.Kp
end
section
namespace Go.Proofs.YtoejhekppfgmpaaDoor.Ks
open Go Go.RowKit Go.Shelf Go.Proofs.YtoejhekppfgmpaaDoorW.PrintWords Go.Proofs.YtoejhekppfgmpaaDoorW.PrintLast Go.Proofs.YtoejhekppfgmpaaDoorW.PrintMore Go.Proofs.YtoejhekppfgmpaaDoor.K0 Go.Proofs.YtoejhekppfgmpaaDoor.K2 Go.Proofs.YtoejhekppfgmpaaDoor.K3 Go.Proofs.YtoejhekppfgmpaaDoor.K4 Go.Proofs.YtoejhekppfgmpaaDoor.K5 Go.Proofs.YtoejhekppfgmpaaDoor.Kp Go.Proofs.YtoejhekppfgmpaaDoor.B
set_option linter.unusedVariables false
set_option linter.unusedSimpArgs false
/-- the constants -/
def kk : List Int := (spec_l1K.f).getD []
set_option maxRecDepth 100000 in
theorem kk_len : kk.length = 64 := by decide
theorem kk_eq : spec_l1K.f = some kk := rfl
/-- a slice of words that is read -/
def Rd32 (w : World) (v : Value) (n : Nat) (xs : List Int) : Prop := xs.length = n ∧ ∃ A c, v = .slice A n c ∧ n ≤ c ∧ (Kd.int .u32).C w A n xs
theorem Rd32.below {w w' : World} {v : Value} {n : Nat} {xs : List Int} (h : Rd32 w v n xs) (hb : Below w.heap.size w w') : Rd32 w' v n xs := by
  obtain ⟨h0, A, c, h1, h2, h3⟩ := h
  exact ⟨h0, A, c, h1, h2, Kd.C_below h3 hb⟩
theorem rd_of_R {w : World} {e base : Nat} {ok : Nat → Prop} {v : Value} {xs : List Int} {n : Nat} (h : (Kd.int .u32).R e w base ok v xs) (hn : xs.length = n) : Rd32 w v n xs := by
  obtain ⟨A, c, h1, h2, h3⟩ := Kd.R_reads h
  subst hn
  exact ⟨rfl, A, c, h1, h2, h3⟩
theorem rd_of_W {w : World} {g : Nat} {t : TypeId} {xs : List Int} (h : W32 w g t xs) (hn : xs.length ≤ 1000) : Rd32 w (.slice (some ⟨g, 0, none⟩) xs.length xs.length) xs.length xs := by
  refine ⟨rfl, _, _, rfl, Nat.le_refl _, ⟨rfl, by omega, fun _ => ⟨⟨g, 0, none⟩, rfl, fun j p hj => ⟨[.int .u32 p], rfl, rfl, fun i u hu => ?_⟩⟩⟩⟩
  obtain ⟨hjl, hp⟩ := List.getElem?_eq_some_iff.1 hj
  cases i with
  | zero =>
    simp only [List.getElem?_cons_zero, Option.some.injEq] at hu
    subst hu
    have e : rd xs j = p := by unfold rd; simp [List.getD_eq_getElem?_getD, hjl, hp]
    rw [show j * (Kd.int .u32).sz + 0 = j from by show j * 1 + 0 = j; omega, add_plain, h.cell hjl, e]
  | succ i => simp at hu
theorem k_c (w : World) : Calls Tryd.prog 151 #[] w fun e w' => ∃ v, e = .returned v ∧ Rd32 w' v 64 kk ∧ Below w.heap.size w w' :=
  (spec_l1K.calls kk w kk_eq).mono fun e w' ⟨v, h1, h2, h3⟩ => ⟨v, h1, rd_of_R h2 kk_len, h3⟩
theorem block_c (h m : List Int) (p : Int) (v0 v1 v2 : Value) (M : Nat) (w : World) (h0 : Rd32 w v0 8 h) (h1 : Rd32 w v1 64 kk) (B : Nat) (h2 : OwnM w B v2 m) (hM : m.length = M) (hp : 0 ≤ p) (hm : p + 64 ≤ M) (hx : (M : Int) ≤ 1000000000000) :
    Calls Tryd.prog 153 #[v0, v1, v2, .int .i64 p] w fun e w' => ∃ v, e = .returned v ∧ Rd32 w' v 8 (Sx.block kk h m p) ∧ Below w.heap.size w w' := by
  obtain ⟨e0, A0, c0, rfl, l0, r0⟩ := h0
  obtain ⟨e1, A1, c1, rfl, l1, r1⟩ := h1
  obtain ⟨A2, c2, rfl, l2, r2⟩ := h2.read
  subst hM
  have := spec_l1Block.calls 80 A0 c0 h A1 c1 kk A2 c2 m p (Sx.block kk h m p) w (by rw [e0]; exact r0) (by omega) (by rw [e1]; exact r1) (by omega) r2 l2 (Sx.block_spec kk h m p e0 e1 hp (by omega) (by omega) (by omega))
  rw [e0, e1] at this
  exact this.mono fun e w' ⟨v, h1, h2, h3⟩ => ⟨v, h1, rd_of_R h2 (Sx.block_len _ _ _ _), h3⟩

/-- the state behind so many blocks -/
def bl (m : List Int) : Nat → List Int
  | 0 => iv8
  | j + 1 => Sx.block kk (bl m j) m (64 * j)
theorem padL_len (s : ByteArray) : ∃ q, (padL s).length = 64 * q ∧ 64 * q ≤ s.size + 128 := by
  have h := Sh.pad_len s.size
  have hl : (padL s).length = s.size + (Sh.pad s.size).length + 8 := by unfold padL; rw [List.length_append, List.length_append, sb_len]; rfl
  have hp : (Sh.pad s.size).length ≤ 64 := by unfold Sh.pad; simp; omega
  exact ⟨(padL s).length / 64, by omega, by omega⟩

theorem own_empty (w : World) : (w.alloc (.cells #[] 5 (0, 0))).ownsRow w.heap.size 5 1 (.slice (some ⟨w.heap.size, 0, none⟩) 0 0) (4 * 0) (c8 (outs [] 0)) :=
  ⟨rfl, .inr ⟨w.heap.size, 0, #[], rfl, Nat.le_refl _, heap_alloc_new w _, Nat.le_refl _, by unfold maxLen; decide, rfl, rfl⟩⟩
theorem below_own {B : Nat} {w W W' : World} {row : Option Nat} (h : Below B w W) (hB : B ≤ W.heap.size) (hg : W.grownBy W' row) (hr : ∀ k, row = some k → B ≤ k) : Below B w W' :=
  ⟨hg.os.trans h.os, hg.tape.trans h.tape, hg.output.trans h.output, Nat.le_trans h.size hg.size, fun k hk => (hg.block k (by omega) (fun e => by have := hr k e.symm; omega)).trans (h.block k hk)⟩
set_option maxRecDepth 100000 in
theorem idx_s (ad : Addr) (n c j : Nat) (h : j < n) (w : World) : (Instr.indexAt 177 (.slice (some ad) n c) (.int .i64 j)).run Tryd.prog w = .ok (.pointer (some (ad.add j))) w := by
  have hu := Tryd.underlying177
  rw [run_indexAt_slice w 177 ad n c .i64 j hu, if_pos (by omega)]
  have es : ∀ w, (sizeOf (Tryd.prog.elem 177)).run Tryd.prog w = .ok 1 w := fun w => by kernel_rfl
  rw [es]
  simp only [Result.andThen, Int.toNat_natCast]
  rw [Nat.mul_one]
theorem own_far {w : World} {base : Nat} {e : TypeId} {size n : Nat} {v : Value} {xs : List Value} (h : w.ownsRow base e size v n xs) {b : Nat} (hb : b < base) : v.ownBlock ≠ some b := fun e' => by have := own_base h b e'; omega
set_option maxRecDepth 100000 in
set_option maxHeartbeats 4000000 in
theorem sha_c (s : ByteArray) (hs : s.size < 274877906944) (w : World) :
    Calls Tryd.prog 124 #[.string s] w fun e w' => e = .returned (.string (strOfNums (outs (bl (padL s) ((padL s).length / 64)) 8))) ∧ Below w.heap.size w w' := by
  obtain ⟨q, hq, hq2⟩ := padL_len s
  obtain ⟨i0, hi0, hz0, hz1, hz2⟩ := info_parts (show (Tryd.prog.info? 5).map (fun i => (i.zero, i.size, i.bytes)) = some (some (.int .u8 0), 1, 1) by kernel_rfl)
  have hb0 := Lib.hid (below_alloc w (.cells (c32 iv8).toArray 176 (0, 0)))
  have h0 := Lib.hid (rd_of_W (show W32 (w.alloc (.cells (c32 iv8).toArray 176 (0, 0))) w.heap.size 176 iv8 from heap_alloc_new w _) (by decide))
  have hq' := Lib.hid hq
  clear hq
  go_enter Tryd.func124, Tryd.ntmps124
  go_wp2_with (first | (go_at_call 151; refine (k_c _).mono ?_; rintro e w1 ⟨v1, rfl, hk1, hb1⟩; have hk1' := Lib.hid hk1; have hb1' := Lib.hid hb1; clear hk1 hb1) | (go_at_call 152; refine (padded_c s (by omega) _).mono ?_; rintro e w2 ⟨v2, rfl, hm2, hb2⟩; have hm2' := Lib.hid hm2; have hb2' := Lib.hid hb2; clear hm2 hb2))
  have hbw := (hb0.out.trans (hb1'.out.mono (by simp))).trans (hb2'.out.mono (by have := hb0.out.size; have := hb1'.out.size; simp at this; omega))
  have hk2 := Lib.hid (hk1'.out.below hb2'.out)
  have h2 := Lib.hid ((h0.out.below hb1'.out).below hb2'.out)
  have hws := hbw.size
  have hbw' := Lib.hid hbw
  clear hbw
  obtain ⟨B, hB⟩ : ∃ B, B = w1.heap.size := ⟨_, rfl⟩
  have hm3 : OwnM w2 B v2 (padL s) := hB ▸ hm2'.out
  obtain ⟨gm, capm, rfl, _⟩ := hm3.cells
  have hm3' := Lib.hid hm3
  clear hB hm3 hm2'
  generalize hL : (padL s).length = L at *
  have hL' := Lib.hid hL
  clear hL
  go_loopw [3, 6] (fun v i wr => ∃ j : Nat, j ≤ q ∧ i = .int .i64 (64 * j) ∧ Rd32 wr v 8 (bl (padL s) j) ∧ Below w2.heap.size w2 wr) (fun _ i _ => (64 * q - intOf i).toNat)
  case atStart => exact ⟨0, by omega, rfl, h2.out, Below.refl _ _⟩
  case round =>
    clear h2
    obtain ⟨j, hj, rfl, hh, hb⟩ := hrel
    have hh' := Lib.hid hh
    have hb' := Lib.hid hb
    have hws2 := hb.size
    have hk3 := Lib.hid (hk2.out.below hb)
    have hm4 := Lib.hid (hm3'.out.below hb)
    clear hh hb
    have hLq := hq'.out
    by_cases hlt : j < q
    · have hl1 : (64 * (j : Int)) < (L : Int) := by omega
      have hl2 : 64 * (j : Int) + 64 ≤ (L : Int) := by omega
      have hl3 : (L : Int) ≤ 1000000000000 := by omega
      clear hLq
      have hl4 : (0 : Int) ≤ 64 * (j : Int) := by omega
      have hc := Lib.hid (block_c (bl (padL s) j) (padL s) (64 * (j : Int)) _ _ _ L _ hh'.out hk3.out B hm4.out hL'.out hl4 hl2 hl3)
      go_wp2_with (go_at_call 153; (with_reducible refine hc.out.mono ?_); rintro e w3 ⟨v3, rfl, hh3, hb3⟩; have hh3' := Lib.hid hh3; have hb3' := Lib.hid hb3; clear hh3 hb3)
      go_roundw
      case rel => exact ⟨j + 1, by omega, by go_num, hh3'.out, hb'.out.trans (hb3'.out.mono hws2)⟩
      case measure => simp [intOf]; omega
    · rw [show j = q by omega] at hh'
      have hl1 : (L : Int) ≤ 64 * (j : Int) := by omega
      clear hLq
      go_wp2_with fail
      have hbw2 := Lib.hid (hbw'.out.trans (hb'.out.mono hws))
      clear hb' hk3 hm4 hk2 hm3' hbw'
      generalize hhs : bl (padL s) q = hs8 at *
      have hhs' := Lib.hid hhs
      clear hhs
      obtain ⟨hl8, A8, c8_, rfl, hc8, hC8⟩ := hh'.out
      have hC8' := Lib.hid hC8
      have hl8' := Lib.hid hl8
      clear hC8 hh' hl8
      obtain ⟨ad, rfl, _⟩ := Kd.at_int hC8'.out 0 (by omega) (by omega)
      obtain ⟨wo, rfl⟩ : ∃ wo : World, wo = wr := ⟨_, rfl⟩
      have hown0 := Lib.hid (own_empty wo)
      have hbe := Lib.hid (below_alloc wo (.cells #[] 5 (0, 0)))
      go_loopw [7, 8] (fun v i wx => ∃ k : Nat, k ≤ 8 ∧ i = .int .i64 k ∧ wx.ownsRow wo.heap.size 5 1 v (4 * k) (c8 (outs hs8 k)) ∧ Below wo.heap.size wo wx) (fun _ i _ => (8 - intOf i).toNat)
      case atStart => exact ⟨0, by omega, rfl, hown0.out, hbe.out⟩
      case round =>
        clear hown0 hbe
        obtain ⟨k, hk, rfl, hO, hb⟩ := hrel
        have hws4 := hb.size
        by_cases hlt : k < 8
        · obtain ⟨ad_, e_, hcx⟩ := Kd.at_int (Kd.C_below hC8'.out hb) k (by omega) (by omega)
          cases Option.some.inj e_
          have hadl : (ad.add k).block < wo.heap.size := by
            obtain ⟨ad_, e_, hcx⟩ := Kd.at_int hC8'.out k (by omega) (by omega)
            cases Option.some.inj e_
            exact World.block_lt_of_cell? wo _ hcx
          have hO' := Lib.hid hO
          have hb' := Lib.hid hb
          rw [Int.toNat_natCast] at hcx
          have ix : ∀ W, (Instr.indexAt 177 (.slice (some ad) 8 c8_) (.int .i64 k)).run Tryd.prog W = .ok (.pointer (some (ad.add k))) W := idx_s ad 8 c8_ k hlt
          have hag := own_far hO hadl
          generalize hx : rd hs8 (k : Int) = x at *
          have hx' := Lib.hid hx
          generalize ad.add k = ak at *
          clear hO hb hx e_
          go_wp2_with fail
          go_region_held3 (fun w' => w'.cell? ak = some (.int .u32 x))
            (first
              | go_keep
              | (rw [hgrow.cell_far _ (by simp; omega) (Ne.symm hag)]; assumption))
            ((refine step_append_lies _ (by rfl) _ _ _ (by rfl) wo.heap.size 5 i0 (.int .u8 0) 1 1 Tryd.underlying22 hi0 hz0 hz1 hz2 rfl (by omega) _ (4 * k) (c8 (outs hs8 k)) (by rfl) ((hO'.out.alloc _).drew)
                ⟨wr.heap.size, 0, none⟩ 4 4 (c8 (b4 x)) (by rfl) (by rfl) (World.news_of_block (cs := (c8 (b4 x)).toArray) (t := 5) (fr := (0, 0)) (heap_alloc_new wr _)) (c8_one _) (by omega)
                (by unfold maxLen; omega) (by omega) (by simp; omega) (wr.heap.size + 1) (by simp) ?_; intro gg cap w5 hown1 hgrow hat hlt5))
          have hown1' := Lib.hid hown1
          have hgrow' := Lib.hid hgrow
          clear hown1 hgrow hat
          go_wp2
          go_roundw
          case rel =>
            refine ⟨k + 1, by omega, by go_num, ?_, ?_⟩
            · have h5 := hown1'.out
              rw [← c8_app, ← hx'.out] at h5
              exact h5
            · exact below_own ((hb'.out.alloc hws4 _).drew) (by simp; omega) hgrow'.out (fun b hb => own_base hO'.out b hb)
          case measure => simp [intOf]; omega
        · rw [show k = 8 by omega] at hO
          have hO' := Lib.hid hO
          have hb' := Lib.hid hb
          have hcv := own_string (P := Tryd.prog) (src := 22) (e := 5) (dst := 9) Tryd.underlying22 Tryd.underlying5 Tryd.underlying9 (xs := outs hs8 8) hO
          obtain ⟨Av, cv, rfl⟩ := own_slice hO
          clear hO hb
          go_wp2_with fail
          go_ret
          have hq8 : L / 64 = q := by have := hq'.out; omega
          exact ⟨by rw [hL'.out, hq8, hhs'.out]; rfl, hbw2.out.trans (hb'.out.mono (by have := hbw2.out.size; omega))⟩
end Go.Proofs.YtoejhekppfgmpaaDoor.Ks
end
section
namespace Go.Proofs.YtoejhekppfgmpaaDoor.Ks
open Go Go.RowKit Go.Shelf Go.Proofs.YtoejhekppfgmpaaDoorW.PrintWords Go.Proofs.YtoejhekppfgmpaaDoorW.PrintLast Go.Proofs.YtoejhekppfgmpaaDoorW.PrintMore Go.Proofs.YtoejhekppfgmpaaDoor.K0 Go.Proofs.YtoejhekppfgmpaaDoor.K2 Go.Proofs.YtoejhekppfgmpaaDoor.K3 Go.Proofs.YtoejhekppfgmpaaDoor.K4 Go.Proofs.YtoejhekppfgmpaaDoor.K5 Go.Proofs.YtoejhekppfgmpaaDoor.Kp
set_option linter.unusedVariables false
set_option linter.unusedSimpArgs false
theorem rd_cut (m : List Int) (p i : Nat) (h : i < 64) : rd ((m.drop p).take 64) (i : Int) = rd m ((p : Int) + i) := by
  unfold rd
  rw [show ((p : Int) + i).toNat = p + i by omega, Int.toNat_natCast]
  simp [List.getD_eq_getElem?_getD, List.getElem?_take, h, List.getElem?_drop]
theorem wd4_cut (m : List Int) (p n : Nat) (h : n < 16) : Sx.wd4 ((m.drop p).take 64) (0 + 4 * (n : Int)) = Sx.wd4 m ((p : Int) + 4 * n) := by
  unfold Sx.wd4
  have e0 := rd_cut m p (4 * n) (by omega)
  have e1 := rd_cut m p (4 * n + 1) (by omega)
  have e2 := rd_cut m p (4 * n + 2) (by omega)
  have e3 := rd_cut m p (4 * n + 3) (by omega)
  rw [show 0 + 4 * (n : Int) = ((4 * n : Nat) : Int) by omega, e0]
  rw [show (((4 * n : Nat) : Int) + 1) = ((4 * n + 1 : Nat) : Int) by omega, show (((4 * n : Nat) : Int) + 2) = ((4 * n + 2 : Nat) : Int) by omega, show (((4 * n : Nat) : Int) + 3) = ((4 * n + 3 : Nat) : Int) by omega, e1, e2, e3]
  rw [show (p : Int) + ((4 * n : Nat) : Int) = (p : Int) + 4 * n by omega, show (p : Int) + ((4 * n + 1 : Nat) : Int) = (p : Int) + 4 * n + 1 by omega, show (p : Int) + ((4 * n + 2 : Nat) : Int) = (p : Int) + 4 * n + 2 by omega, show (p : Int) + ((4 * n + 3 : Nat) : Int) = (p : Int) + 4 * n + 3 by omega]
theorem w16_cut (m : List Int) (p : Nat) : ∀ n, n ≤ 16 → Sx.w16 ((m.drop p).take 64) 0 n = Sx.w16 m p n
  | 0, _ => rfl
  | n + 1, h => by rw [Sx.w16, Sx.w16, w16_cut m p n (by omega), wd4_cut m p n (by omega)]
theorem block_cut (ks h m : List Int) (p : Nat) : Sx.block ks h ((m.drop p).take 64) 0 = Sx.block ks h m p := by
  unfold Sx.block Sx.sched
  rw [w16_cut m p 16 (Nat.le_refl _)]
theorem blocks_bl (m : List Int) : ∀ n j, Sh.blocks (C kk) n (bl m j) (m.drop (64 * j)) = bl m (j + n)
  | 0, j => rfl
  | n + 1, j => by
    rw [Sh.blocks, C, block_cut, List.drop_drop, show 64 * j + 64 = 64 * (j + 1) by omega]
    have := blocks_bl m n (j + 1)
    rw [bl, show (64 * (j : Int)) = ((64 * j : Nat) : Int) by omega] at this
    rw [this, show j + 1 + n = j + (n + 1) by omega]
/-- a text's hash -/
def sha1 (s : ByteArray) : ByteArray := sha kk [s]
theorem sha_same (s : ByteArray) : strOfNums (outs (bl (padL s) ((padL s).length / 64)) 8) = sha1 s := by
  obtain ⟨q, hq, _⟩ := padL_len s
  unfold sha1 sha fin
  rw [tot_one, sbs_one, ← Sh.feed_append, ← Sh.feed_append, ← List.append_assoc]
  show _ = strOfNums (outs (Sh.feedL (C kk) (iv8, []) (padL s)).1 8)
  rw [Sh.feed_blocks (C kk) q iv8 (padL s) hq]
  have := blocks_bl (padL s) q 0
  rw [Nat.mul_zero, List.drop_zero, Nat.zero_add] at this
  rw [show bl (padL s) 0 = iv8 from rfl] at this
  rw [this, hq, show 64 * q / 64 = q by omega]
end Go.Proofs.YtoejhekppfgmpaaDoor.Ks
end
section
namespace Go.Proofs.YtoejhekppfgmpaaDoor.G2
open Go Go.RowKit Go.Proofs.YtoejhekppfgmpaaDoorW.PrintWords Go.Proofs.YtoejhekppfgmpaaDoorW.PrintLast Go.Proofs.YtoejhekppfgmpaaDoorW.PrintMore Go.Proofs.YtoejhekppfgmpaaDoor.K0
def G (w : World) : Prop := Rw Ks.kk w
theorem G_below {w W : World} (h : Below w.heap.size w W) (hG : G w) : G W := K3.Rw_kept hG (K2.gb_of h) (by simp)
end Go.Proofs.YtoejhekppfgmpaaDoor.G2
end
section
namespace Go.Proofs.YtoejhekppfgmpaaDoor.G3
open Go Go.RowKit
structure G (w : World) : Prop where
  z : G1.G w
  r : G2.G w
theorem G_below {w W : World} (h : Below w.heap.size w W) (hG : G w) : G W := ⟨G1.G_below h hG.z, G2.G_below h hG.r⟩
theorem blk_cellG {w : World} {g : Nat} {t : TypeId} {cs : Array Value} {fr : Nat × Nat} (h : w.heap[g]? = some (.cells cs t fr)) (i : Nat) : w.cell? ⟨g, i, none⟩ = cs[i]? := G1.blk_cellG h i
theorem G_0 {w : World} (hG : G w) : ∃ t fr, w.heap[0]? = some (.cells #[.int .u64 0, .int .u64 0, .bool true] t fr) := hG.z
instance {w : World} : Coe (G w) (G1.G w) := ⟨G.z⟩
instance {w : World} : Coe (G w) (G2.G w) := ⟨G.r⟩
end Go.Proofs.YtoejhekppfgmpaaDoor.G3
end
section
namespace Go.Proofs.YtoejhekppfgmpaaDoor.KG2
open Go Go.RowKit Go.Proofs.YtoejhekppfgmpaaDoorW.PrintWords Go.Proofs.YtoejhekppfgmpaaDoorW.PrintLast Go.Proofs.YtoejhekppfgmpaaDoorW.PrintMore Go.Proofs.YtoejhekppfgmpaaDoor.G2
def spec_Sha256.f (a : ByteArray) : Option ByteArray := if a.size < 274877906944 then some (Ks.sha1 a) else none
theorem spec_Sha256.calls (a : ByteArray) (r : ByteArray) (w : World) (h : spec_Sha256.f a = some r) :
    Calls Tryd.prog 124 #[.string a] w fun e w' => e = .returned (.string r) ∧ Below w.heap.size w w' := by
  unfold spec_Sha256.f at h
  split at h
  · obtain rfl := Option.some.inj h
    rw [← Ks.sha_same]
    exact Ks.sha_c a (by assumption) w
  · cases h
end Go.Proofs.YtoejhekppfgmpaaDoor.KG2
end
section
namespace Go.Proofs.YtoejhekppfgmpaaDoor.C
open Go.RowKit Go.Proofs.YtoejhekppfgmpaaDoor.B Go.Proofs.YtoejhekppfgmpaaDoor.H0 Go.Proofs.YtoejhekppfgmpaaDoor.G3 Go.Proofs.YtoejhekppfgmpaaDoor.F0 Go.Proofs.YtoejhekppfgmpaaDoorW.PrintWords Go.Proofs.YtoejhekppfgmpaaDoorW.PrintLast Go.Proofs.YtoejhekppfgmpaaDoorW.PrintMore Go.Proofs.YtoejhekppfgmpaaDoor.Ve Go.Proofs.YtoejhekppfgmpaaDoor.VeT Go.Proofs.YtoejhekppfgmpaaDoor.VeE
attribute [local go_sem high] field_num_fieldP   -- for this text's walks alone
attribute [local go_sem] max2_int min2_int max_two min_two max_three min_three max_four min_four   -- for this text's walks alone
set_option linter.unusedVariables false
set_option linter.unusedSimpArgs false
attribute [local go_sem high] eqA25 eqA94
def impl_at.j0 : Nat → Bool → Int → Int → Bool → Int → Int → Bool → Option (Int × Int × Bool × Bool)
  | 0, _, _, _, _, _, _, _ => none
  | k + 1, x19, x81000, x81001, x81002, x102000, x102001, x102002 => if x19 = true then (some (x81000, x81001, x81002, false)) else ((impl_num_impl_fieldP_times.f k x102001 x102001).bind fun t104 => ((impl_curveAt.f k x102000).bind fun t105 => (some (x102000, x102001, x102002, (t104 == t105)))))
def impl_at.f (k : Nat) (a0_0 : Int) (a0_1 : Int) (a0_2 : Bool) : Option (Int × Int × Bool × Bool) := if a0_2 = true then (some (a0_0, a0_1, a0_2, (a0_0 == 0 && (a0_1 == 0 && (a0_2))))) else (if a0_0 ≥ 2305843009213693951 then (impl_at.j0 k true 0 0 true a0_0 a0_1 a0_2) else (impl_at.j0 k (decide (a0_1 ≥ 2305843009213693951)) 0 0 true a0_0 a0_1 a0_2))
set_option maxRecDepth 100000 in
set_option maxHeartbeats 4000000 in
theorem impl_at.calls (k : Nat) (a0_0 : Int) (a0_1 : Int) (a0_2 : Bool) (r1 : Int) (r2 : Int) (r3 : Bool) (r4 : Bool) (w : World) (hG : G w) (h : impl_at.f k a0_0 a0_1 a0_2 = some (r1, r2, r3, r4)) :
    Calls Tryd.prog 57 #[.agg #[.int .u64 a0_0, .int .u64 a0_1, .bool a0_2]] w fun e w' => e = .returned (.tuple #[.agg #[.int .u64 r1, .int .u64 r2, .bool r3], .bool r4]) ∧ Below w.heap.size w w' := by
  unfold impl_at.f at h
  all_goals rcases k with _ | k
  repeat' (first | (rw [Option.bind_eq_some_iff] at h; obtain ⟨_, _, h⟩ := h) | (split at h) | (rw [impl_at.j0] at h) | (cases h <;> fail) | (replace h := Option.some.inj h) | (have h3_ := (Prod.mk.inj h).1; replace h := (Prod.mk.inj h).2; subst h3_) | (subst h))
  all_goals try contradiction
  all_goals refine ve_fn (args := [.agg #[.int .u64 a0_0, .int .u64 a0_1, .bool a0_2]]) Tryd.func57 rfl Tryd.ntmps57 rfl (good (Γ := fun W => G W) (fun W hb => G_below hb hG)) ?_
  all_goals repeat' (first | refine rbt ?_ | refine rbf ?_ | refine wn ?_ | refine wq ?_ | refine wc_plain ?_ | refine wc_draw ?_ | refine rZ ?_ | refine rD ?_ | refine ve8 ?_ | refine ve4 ?_ | refine ve3 ?_ | refine ve1 ?_ | refine ve2 ?_ | refine ve5 ?_ | refine ve6 ?_ | refine ve7 ?_ | refine ve9 ?_ | refine rA ?_ | refine rE ?_ | refine rC ?_ | refine rB ?_ | refine rG ?_ | refine rH ?_ | refine rI ?_ | refine rJ ?_ | refine rcb ?_ | refine rcp (Pre := impl_num_impl_fieldP_times.f _ _ _ = some _) (fun hp_ w_ hΓ => impl_num_impl_fieldP_times.calls _ _ _ _ w_ hp_) ?_ | refine rcp (Pre := impl_curveAt.f _ _ = some _) (fun hp_ w_ hΓ => impl_curveAt.calls _ _ _ w_ hp_) ?_ | refine rel (fun w_ hΓ => ld_zero (by first  |  exact hΓ.z  |  exact hΓ.1.z  |  exact hΓ.1  |  exact hΓ)) ?_  |  refine req (fun w_ => eq_pt w_) ?_  |  refine req (fun w_ => ne_pt w_) ?_  |  refine req (fun w_ => eq_num w_) ?_ | refine wb ?_ | refine wk ?_ | refine we ?_ | exact wt | refine wr ?_ | refine rr1 ?_ | refine rr2 ?_ | exact fr | exact fe | refine wTs ?_ | refine wFs ?_ | refine rof ?_ | refine rof0 ?_)

end Go.Proofs.YtoejhekppfgmpaaDoor.C
end
section
namespace Go.Proofs.YtoejhekppfgmpaaDoor.K6
open Go Go.RowKit Go.Shelf Go.Proofs.YtoejhekppfgmpaaDoorW.PrintWords Go.Proofs.YtoejhekppfgmpaaDoorW.PrintLast Go.Proofs.YtoejhekppfgmpaaDoorW.PrintMore Go.Proofs.YtoejhekppfgmpaaDoor.K0 Go.Proofs.YtoejhekppfgmpaaDoor.K2 Go.Proofs.YtoejhekppfgmpaaDoor.K3 Go.Proofs.YtoejhekppfgmpaaDoor.K4 Go.Proofs.YtoejhekppfgmpaaDoor.K5 Go.Proofs.YtoejhekppfgmpaaDoor.Kp
set_option linter.unusedVariables false
set_option linter.unusedSimpArgs false
/-- a box of 64 bytes -/
def Y8 (w : World) (g : Nat) (l : List Int) : Prop := l.length = 64 ∧ w.heap[g]? = some (.cells (c8 l).toArray 196 (0, 0))
theorem Y8.lt {w : World} {g : Nat} {l : List Int} (h : Y8 w g l) : g < w.heap.size := (Array.getElem?_eq_some_iff.1 h.2).1
theorem Y8.cell {w : World} {g : Nat} {l : List Int} (h : Y8 w g l) {i : Nat} (hi : i < 64) : w.cell? ⟨g, i, none⟩ = some (.int .u8 (rd l i)) := by
  rw [cell_of_row w g i _ _ _ h.2, List.getElem?_toArray, c8_get (by rw [h.1]; exact hi)]
theorem Y8.free {w : World} {g : Nat} {l : List Int} (h : Y8 w g l) (i : Nat) : w.frozen? ⟨g, i, none⟩ = false := frozen_of_row w g i _ _ h.2
theorem c8_set (l : List Int) (i : Nat) (x : Int) : (c8 l).set i (.int .u8 x) = c8 (l.set i x) := by unfold c8; rw [List.map_set]
theorem Y8.set {w : World} {g : Nat} {l : List Int} (h : Y8 w g l) (i : Nat) (x : Int) : Y8 (w.setCell ⟨g, i, none⟩ (.int .u8 x)) g (l.set i x) := by
  refine ⟨by rw [List.length_set]; exact h.1, ?_⟩
  have := heap_setCell_same w g i _ 196 (.int .u8 x) h.2
  rw [this, ← c8_set]; simp
theorem Y8.kept {w w' : World} {g : Nat} {l : List Int} (h : Y8 w g l) {row : Option Nat} (hg : w.grownBy w' row) (hne : some g ≠ row) : Y8 w' g l := ⟨h.1, (hg.block g h.lt hne).trans h.2⟩
theorem Y8.far {w : World} {g : Nat} {l : List Int} (h : Y8 w g l) {p : Addr} (hp : g ≠ p.block) (v : Value) : Y8 (w.setCell p v) g l := ⟨h.1, (Below.heap_setCell _ _ _ _ hp).trans h.2⟩
/-- the bytes of it as a text -/
theorem Y8.str {w : World} {g : Nat} {l : List Int} (h : Y8 w g l) : (convert 22 9 (.slice (some ⟨g, 0, none⟩) 64 64)).run Tryd.prog w = .ok (.string (strOfNums l)) w :=
  own_string (P := Tryd.prog) (base := 0) (n := 64) Tryd.underlying22 Tryd.underlying5 Tryd.underlying9 (xs := l)
    ⟨by rw [nums, List.length_map, h.1], .inr ⟨g, 64, _, rfl, Nat.zero_le _, h.2, Nat.le_refl _, by unfold maxLen; decide, by rw [List.size_toArray, c8_len, h.1], by
      rw [Nat.mul_one, List.take_of_length_le (by show (c8 l).length ≤ 64; rw [c8_len, h.1]; exact Nat.le_refl _)]; rfl⟩⟩

/-- a text laid over zeros -/
def keyL (s : ByteArray) : List Int := sb s ++ List.replicate (64 - s.size) 0
/-- each byte by one -/
def xorL (l : List Int) (c : Int) : List Int := l.map fun x => Go.bits .xor .u8 x c
/-- a keyed hash: two running hashes and the box of their pointers -/
def KP (w : World) (k gi gg : Nat) : Prop := w.heap[k]? = some (.cells #[.pointer (some ⟨gi, 0, none⟩), .pointer (some ⟨gg, 0, none⟩)] 195 (0, 0))
theorem KP.lt {w : World} {k gi gg : Nat} (h : KP w k gi gg) : k < w.heap.size := (Array.getElem?_eq_some_iff.1 h).1
theorem KP.c0 {w : World} {k gi gg : Nat} (h : KP w k gi gg) : w.cell? ⟨k, 0, none⟩ = some (.pointer (some ⟨gi, 0, none⟩)) := (cell_of_row w k 0 _ _ _ h).trans rfl
theorem KP.c1 {w : World} {k gi gg : Nat} (h : KP w k gi gg) : w.cell? ⟨k, 1, none⟩ = some (.pointer (some ⟨gg, 0, none⟩)) := (cell_of_row w k 1 _ _ _ h).trans rfl
theorem KP.kept {w w' : World} {k gi gg : Nat} (h : KP w k gi gg) {row : Option Nat} (hg : w.grownBy w' row) (hne : some k ≠ row) : KP w' k gi gg := (hg.block k h.lt hne).trans h
theorem KP.far {w : World} {k gi gg : Nat} (h : KP w k gi gg) {p : Addr} (hp : k ≠ p.block) (v : Value) : KP (w.setCell p v) k gi gg := (Below.heap_setCell _ _ _ _ hp).trans h
/-- what the loop keeps: the boxes, the hashes -/
structure KI (w wr : World) (k gi gg a b : Nat) (la lb : List Int) : Prop where
  ya : Y8 wr a la
  yb : Y8 wr b lb
  hi : HS wr gi (iv8, []) (0 : Nat)
  hg : HS wr gg (iv8, []) (0 : Nat)
  hk : KP wr k gi gg
  hb : Below w.heap.size w wr
/-- a keyed hash that runs: the key's bytes, what the inner one holds -/
structure KH (kk : List Int) (w0 w : World) (k gi gg : Nat) (L : List Int) (p : List Int × List Int) (n : Int) : Prop where
  kp : KP w k gi gg
  hi : HS w gi p n
  hg : HS w gg (Sh.feedL (C kk) (iv8, []) (xorL L 92)) (64 : Nat)
  n1 : gi ≠ gg
  n2 : k ≠ gi
  n3 : k ≠ gg
  l0 : w0.heap.size ≤ k
  l1 : w0.heap.size ≤ gi
  l2 : w0.heap.size ≤ gg
  hb : Below w0.heap.size w0 w
/-- the key as it is laid: a long one's hash -/
def keyOf (kk : List Int) (key : ByteArray) : ByteArray := if 64 < key.size then sha kk [key] else key
theorem sha_size (kk : List Int) (xs : List ByteArray) : (sha kk xs).size = 32 := by
  rw [← sb_len]
  unfold sha sb strOfNums
  rw [List.length_map]
  show (List.map _ _).length = 32
  rw [List.length_map, fin, outs_len]
end Go.Proofs.YtoejhekppfgmpaaDoor.K6
end
section
namespace Go.Proofs.YtoejhekppfgmpaaDoor.K6
open Go Go.RowKit Go.Shelf Go.Proofs.YtoejhekppfgmpaaDoorW.PrintWords Go.Proofs.YtoejhekppfgmpaaDoorW.PrintLast Go.Proofs.YtoejhekppfgmpaaDoorW.PrintMore Go.Proofs.YtoejhekppfgmpaaDoor.K0 Go.Proofs.YtoejhekppfgmpaaDoor.K2 Go.Proofs.YtoejhekppfgmpaaDoor.K3 Go.Proofs.YtoejhekppfgmpaaDoor.K4 Go.Proofs.YtoejhekppfgmpaaDoor.K5 Go.Proofs.YtoejhekppfgmpaaDoor.Kp
set_option linter.unusedVariables false
set_option linter.unusedSimpArgs false
theorem KH.drew {kk : List Int} {w0 w : World} {k gi gg : Nat} {L : List Int} {p : List Int × List Int} {n : Int} (h : KH kk w0 w k gi gg L p n) : KH kk w0 w.drew k gi gg L p n := ⟨h.kp, h.hi, h.hg, h.n1, h.n2, h.n3, h.l0, h.l1, h.l2, h.hb.drew⟩
theorem KH.rw {kk : List Int} {w0 w : World} {k gi gg : Nat} {L : List Int} {p : List Int × List Int} {n : Int} (h : KH kk w0 w k gi gg L p n) (hR : Rw kk w0) : Rw kk w := Rw_kept hR (gb_of h.hb) (by simp)

/-- what a keyed hash sums to -/
def mac (kk : List Int) (L : List Int) (p : List Int × List Int) (n : Nat) : List Int :=
  fin kk (Sh.feedL (C kk) (Sh.feedL (C kk) (iv8, []) (xorL L 92)) (fin kk p n)) 96

/-- a keyed hash of texts -/
def hm (kk : List Int) (key : ByteArray) (xs : List ByteArray) : ByteArray :=
  strOfNums (mac kk (keyL (keyOf kk key)) (Sh.feedL (C kk) (Sh.feedL (C kk) (iv8, []) (xorL (keyL (keyOf kk key)) 54)) (sbs xs)) (64 + tot xs))

end Go.Proofs.YtoejhekppfgmpaaDoor.K6
end
section
namespace Go.Proofs.YtoejhekppfgmpaaDoor.K8
open Go Go.RowKit Go.Shelf Go.Proofs.YtoejhekppfgmpaaDoorW.PrintWords Go.Proofs.YtoejhekppfgmpaaDoorW.PrintLast Go.Proofs.YtoejhekppfgmpaaDoorW.PrintMore Go.Proofs.YtoejhekppfgmpaaDoor.K0 Go.Proofs.YtoejhekppfgmpaaDoor.K2 Go.Proofs.YtoejhekppfgmpaaDoor.K3 Go.Proofs.YtoejhekppfgmpaaDoor.K4 Go.Proofs.YtoejhekppfgmpaaDoor.K5 Go.Proofs.YtoejhekppfgmpaaDoor.K6 Go.Proofs.YtoejhekppfgmpaaDoor.Kp
set_option linter.unusedVariables false
set_option linter.unusedSimpArgs false
/-- one byte as a text -/
theorem str1 (w : World) (x : Int) : (convert 22 9 (.slice (some ⟨w.heap.size, 0, none⟩) 1 1)).run Tryd.prog (w.alloc (.cells #[.int .u8 x] 5 (0, 0))) = .ok (.string (strOfNums [x])) (w.alloc (.cells #[.int .u8 x] 5 (0, 0))) :=
  own_string (P := Tryd.prog) (base := 0) (n := 1) Tryd.underlying22 Tryd.underlying5 Tryd.underlying9 (xs := [x])
    ⟨rfl, .inr ⟨w.heap.size, 1, _, rfl, Nat.zero_le _, heap_alloc_new w _, Nat.le_refl _, by unfold maxLen; decide, rfl, rfl⟩⟩
end Go.Proofs.YtoejhekppfgmpaaDoor.K8
end
section
namespace Go.Proofs.YtoejhekppfgmpaaDoor.KH2
open Go Go.RowKit Go.Proofs.YtoejhekppfgmpaaDoorW.PrintWords Go.Proofs.YtoejhekppfgmpaaDoorW.PrintLast Go.Proofs.YtoejhekppfgmpaaDoorW.PrintMore Go.Proofs.YtoejhekppfgmpaaDoor.G2
/-- a keyed hash -/
def hm1 (key s : ByteArray) : ByteArray := K6.hm Ks.kk key [s]
end Go.Proofs.YtoejhekppfgmpaaDoor.KH2
end
section
namespace Go.Proofs.YtoejhekppfgmpaaDoor.Hp
open Go Go.RowKit Go.Proofs.YtoejhekppfgmpaaDoorW.PrintWords Go.Proofs.YtoejhekppfgmpaaDoorW.PrintLast Go.Proofs.YtoejhekppfgmpaaDoorW.PrintMore Go.Proofs.YtoejhekppfgmpaaDoor.K0 Go.Proofs.YtoejhekppfgmpaaDoor.K3 Go.Proofs.YtoejhekppfgmpaaDoor.K4 Go.Proofs.YtoejhekppfgmpaaDoor.K5 Go.Proofs.YtoejhekppfgmpaaDoor.K6 Go.Proofs.YtoejhekppfgmpaaDoor.Ks Go.Proofs.YtoejhekppfgmpaaDoor.KG2 Go.Proofs.YtoejhekppfgmpaaDoor.KH2 Go.Proofs.YtoejhekppfgmpaaDoor.B Go.Proofs.YtoejhekppfgmpaaDoor.C
set_option linter.unusedVariables false
set_option linter.unusedSimpArgs false
theorem str_eq {a b : ByteArray} (h : sb a = sb b) : a = b := by
  have h2 : a.data.toList = b.data.toList := by
    refine List.map_inj_right (f := fun b : UInt8 => (b.toNat : Int)) ?_ |>.1 h
    intro x y e
    exact UInt8.toNat_inj.1 (by omega)
  cases a; cases b
  simp only [ByteArray.mk.injEq]
  exact Array.toList_inj.1 h2
theorem w64 {n : Int} (h0 : -9223372036854775808 ≤ n) (h : n < 9223372036854775808) : wrap64 n = n := by unfold wrap64; omega
/-- a long run of zeros -/
theorem sb_zero (x : ByteArray) (n : Nat) (h : sb x = List.replicate n 0) : x = zs n := str_eq (h.trans (sb_zs n).symm)
theorem long_zero (n k : Nat) (h : n ≤ 64) (hk : 200 ≤ k) : spec_l1Long.f k n (⟨#[0]⟩ : ByteArray) = some (zs n) := by
  have h0 : ∀ j : Nat, j ≤ 64 → (spec_l1Long.f 200 j (⟨#[0]⟩ : ByteArray)).map sb = some (List.replicate j 0) := by
    intro j hj
    have : (List.range 65).all (fun j : Nat => decide ((spec_l1Long.f 200 j (⟨#[0]⟩ : ByteArray)).map sb = some (List.replicate j 0))) = true := by kernel_rfl
    exact of_decide_eq_true (List.all_eq_true.1 this j (List.mem_range.2 (by omega)))
  have h1 := h0 n h
  obtain ⟨x, hx, hs⟩ := Option.map_eq_some_iff.1 h1
  have hz := sb_zero x n hs
  subst hz
  exact at_least (f := fun k => spec_l1Long.f k n (⟨#[0]⟩ : ByteArray)) (fun k => spec_l1Long.mono _ _ _) hx hk
theorem bt_rd (s : ByteArray) (i : Nat) (h : i < s.size) : bt s i = rd (sb s) i := by
  have hl : i < (sb s).length := by rw [sb_len]; exact h
  unfold bt rd
  rw [Int.toNat_natCast, dif_pos h, List.getD_eq_getElem?_getD, List.getElem?_eq_getElem hl]
  simp [sb]; rfl
theorem app_size (a b : ByteArray) : (a ++ b).size = a.size + b.size := by rw [← sb_len, sb_app, List.length_append, sb_len, sb_len]
theorem str_size {xs : List Int} : (strOfNums xs).size = xs.length := by unfold strOfNums; show (List.toArray _).size = _; simp
end Go.Proofs.YtoejhekppfgmpaaDoor.Hp
end
section
namespace Go.Proofs.YtoejhekppfgmpaaDoor.C
open Go.RowKit Go.Proofs.YtoejhekppfgmpaaDoor.B Go.Proofs.YtoejhekppfgmpaaDoor.H0 Go.Proofs.YtoejhekppfgmpaaDoor.F0 Go.Proofs.YtoejhekppfgmpaaDoor.KG2 Go.Proofs.YtoejhekppfgmpaaDoorW.PrintWords Go.Proofs.YtoejhekppfgmpaaDoorW.PrintLast Go.Proofs.YtoejhekppfgmpaaDoorW.PrintMore
attribute [local go_sem high] field_num_fieldP   -- for this text's walks alone
attribute [local go_sem] max2_int min2_int max_two min_two max_three min_three max_four min_four   -- for this text's walks alone
set_option linter.unusedVariables false
set_option linter.unusedSimpArgs false
mutual
def spec_ExpandMessage.j0 : Nat → ByteArray → ByteArray → Int → Bool → Option (ByteArray × Bool)
  | 0, _, _, _, _ => none
  | k + 1, x0, x1, x2, x33 => if x33 = true then (some ((⟨#[]⟩ : ByteArray), false)) else ((some (([((x1.size : Int)) % 256] : List Int) : List Int)).bind fun y354 => (if x1.size + (strOfNums y354).size ≤ 9223372036854775807 then ((spec_l1Long.f k 64 (⟨#[0]⟩ : ByteArray)).bind fun t357 => (if t357.size + x0.size ≤ 9223372036854775807 then ((some (([(wrap64 (Int.tdiv x2 256)) % 256, (x2) % 256, 0] : List Int) : List Int)).bind fun y358 => (if (t357 ++ x0).size + (strOfNums y358).size ≤ 9223372036854775807 then (if ((t357 ++ x0) ++ (strOfNums y358)).size + (x1 ++ (strOfNums y354)).size ≤ 9223372036854775807 then ((spec_Sha256.f (((t357 ++ x0) ++ (strOfNums y358)) ++ (x1 ++ (strOfNums y354)))).bind fun t361 => ((spec_l1Long.f k 32 (⟨#[0]⟩ : ByteArray)).bind fun t362 => (spec_ExpandMessage.l0 k x2 (x1 ++ (strOfNums y354)) t361 t362 (⟨#[]⟩ : ByteArray) 1))) else (none)) else (none))) else (none))) else (none)))
def spec_ExpandMessage.l0 : Nat → Int → ByteArray → ByteArray → ByteArray → ByteArray → Int → Option (ByteArray × Bool)
  | 0, _, _, _, _, _, _ => none
  | k + 1, x2, x8, x9, x10, x11, x12 => if (x11.size : Int) < x2 then ((spec_l4Both.f k x9 x10).bind fun t363 => ((some (([(x12) % 256] : List Int) : List Int)).bind fun y364 => (if t363.size + (strOfNums y364).size ≤ 9223372036854775807 then (if (t363 ++ (strOfNums y364)).size + x8.size ≤ 9223372036854775807 then ((spec_Sha256.f ((t363 ++ (strOfNums y364)) ++ x8)).bind fun t367 => (if x11.size + t367.size ≤ 9223372036854775807 then (spec_ExpandMessage.l0 k x2 x8 x9 t367 (x11 ++ t367) (wrap64 (x12 + 1))) else (none))) else (none)) else (none)))) else (if 0 ≤ x2 then (if x2 ≤ (x11.size : Int) then (some (x11.extract 0 (x2 : Int).toNat, true)) else (none)) else (none))
end
def spec_ExpandMessage.f (k : Nat) (a0 : ByteArray) (a1 : ByteArray) (a2 : Int) : Option (ByteArray × Bool) := if (a1.size : Int) < 1 then (spec_ExpandMessage.j0 k a0 a1 a2 true) else (if (a1.size : Int) > 255 then (spec_ExpandMessage.j0 k a0 a1 a2 true) else (if a2 < 1 then (spec_ExpandMessage.j0 k a0 a1 a2 true) else (if a2 > 8160 then (spec_ExpandMessage.j0 k a0 a1 a2 true) else (spec_ExpandMessage.j0 k a0 a1 a2 (decide ((a0.size : Int) > 65535))))))
def spec_ExpandMessage.T4 : Bool × List (List Nat × List Nat) := (true, [([], []), ([], []), ([0, 1], [0, 1]), ([], []), ([3], [3]), ([4], [4]), ([], []), ([6], [6]), ([5, 7], [5, 7]), ([8], [8]), ([2, 9], [2, 9]), ([], []), ([10, 11], [10, 11]), ([12, 0], [12]), ([13, 13, 0, 1, 2, 3, 4, 5, 6, 7, 8, 9, 10, 11, 12, 13], [13])])
def spec_ExpandMessage.B4 : List Nat := [0, 0, 3, 0, 8, 24, 0, 64, 248, 504, 1023, 0, 4095, 8191, 16383]
theorem spec_ExpandMessage.tab4 : rtab .any (opsOf Tryd.f132 4) = spec_ExpandMessage.T4 := by kernel_rfl
theorem spec_ExpandMessage.bits4 : waitsOk spec_ExpandMessage.T4.2 spec_ExpandMessage.B4 = true := by kernel_rfl
def spec_ExpandMessage.T10 : Bool × List (List Nat × List Nat) := (true, [([], []), ([], []), ([0, 1], [0, 1]), ([], []), ([3], [3]), ([4], [4]), ([5], [5]), ([2, 6], [2, 6]), ([], []), ([7, 8], [7, 8]), ([9, 2], [9]), ([10, 10, 0, 1, 2, 3, 4, 5, 6, 7, 8, 9, 10], [1, 10])])
def spec_ExpandMessage.B10 : List Nat := [0, 0, 3, 0, 8, 24, 56, 127, 0, 511, 1023, 2047]
theorem spec_ExpandMessage.tab10 : rtab .any (opsOf Tryd.f132 10) = spec_ExpandMessage.T10 := by kernel_rfl
theorem spec_ExpandMessage.bits10 : waitsOk spec_ExpandMessage.T10.2 spec_ExpandMessage.B10 = true := by kernel_rfl
set_option maxHeartbeats 8000000 in
set_option maxRecDepth 100000 in
theorem spec_ExpandMessage.calls (k : Nat) (a0 : ByteArray) (a1 : ByteArray) (a2 : Int) (r1 : ByteArray) (r2 : Bool) (w : World) (h : spec_ExpandMessage.f k a0 a1 a2 = some (r1, r2)) :
    Calls Tryd.prog 132 #[.string a0, .string a1, .int .i64 a2] w fun e w' => e = .returned (.tuple #[.string r1, .bool r2]) ∧ Below w.heap.size w w' := by
  have HB := Aside0.mk (Below.refl w.heap.size w)
  have H : (if (a1.size : Int) < 1 then (spec_ExpandMessage.j0 k a0 a1 a2 true) else (if (a1.size : Int) > 255 then (spec_ExpandMessage.j0 k a0 a1 a2 true) else (if a2 < 1 then (spec_ExpandMessage.j0 k a0 a1 a2 true) else (if a2 > 8160 then (spec_ExpandMessage.j0 k a0 a1 a2 true) else (spec_ExpandMessage.j0 k a0 a1 a2 (decide ((a0.size : Int) > 65535))))))) = some (r1, r2) := h
  clear h
  have HC4 := Aside0.mk H
  clear H
  go_enter Tryd.func132, Tryd.ntmps132
  go_upto_region 1 with (fail)
  go_cut [33] (fun v33 wc => ∃ (kq : Nat) (x33_3 : Bool), v33 = .bool x33_3 ∧ Aside0 (spec_ExpandMessage.j0 kq a0 a1 a2 x33_3 = some (r1, r2)) ∧ Aside0 (kq ≤ k) ∧ Aside0 (Below w.heap.size w wc))
  case first =>
    have H := HC4.out
    clear HC4
    by_cases c5 : (a1.size : Int) < 1
    · rw [if_pos c5] at H
      have c5b0 : decide ((a1.size : Int) < 1) = true := decide_eq_true c5
      have c5b1 : decide (a1.size < 1) = true := decide_eq_true (by omega)
      clear c5
      (first | rw [c5b0] | (simp only [i64_w, i32_w]; rw [c5b0]) | skip)
      have H' := Aside0.mk H
      clear H
      go_wp2
      go_meet
      case rel => exact ⟨_, (true), (by first | rfl | (simp; done) | (simp [*]; done)), H', ⟨by first | omega | exact Nat.le_refl _⟩, ⟨by repeat (first | (with_reducible first | exact HB.out | apply below_alloc | apply pw_below_drewN | apply below_drew1) | exact HB.out)⟩⟩
    · rw [if_neg c5] at H
      have c5b0 : decide ((a1.size : Int) < 1) = false := decide_eq_false c5
      have c5b1 : decide (a1.size < 1) = false := decide_eq_false (by omega)
      clear c5
      (first | rw [c5b0] | (simp only [i64_w, i32_w]; rw [c5b0]) | skip)
      by_cases c6 : (a1.size : Int) > 255
      · rw [if_pos c6] at H
        have c6b0 : decide (255 < (a1.size : Int)) = true := decide_eq_true c6
        have c6b1 : decide (255 < a1.size) = true := decide_eq_true (by omega)
        clear c6
        have H' := Aside0.mk H
        clear H
        go_wp2
        go_meet
        case rel => exact ⟨_, (true), (by first | rfl | (simp; done) | (simp [*]; done)), H', ⟨by first | omega | exact Nat.le_refl _⟩, ⟨by repeat (first | (with_reducible first | exact HB.out | apply below_alloc | apply pw_below_drewN | apply below_drew1) | exact HB.out)⟩⟩
      · rw [if_neg c6] at H
        have c6b0 : decide (255 < (a1.size : Int)) = false := decide_eq_false c6
        have c6b1 : decide (255 < a1.size) = false := decide_eq_false (by omega)
        clear c6
        by_cases c7 : a2 < 1
        · rw [if_pos c7] at H
          have c7b0 : decide (a2 < 1) = true := decide_eq_true c7
          clear c7
          have H' := Aside0.mk H
          clear H
          go_wp2
          go_meet
          case rel => exact ⟨_, (true), (by first | rfl | (simp; done) | (simp [*]; done)), H', ⟨by first | omega | exact Nat.le_refl _⟩, ⟨by repeat (first | (with_reducible first | exact HB.out | apply below_alloc | apply pw_below_drewN | apply below_drew1) | exact HB.out)⟩⟩
        · rw [if_neg c7] at H
          have c7b0 : decide (a2 < 1) = false := decide_eq_false c7
          clear c7
          by_cases c8 : a2 > 8160
          · rw [if_pos c8] at H
            have c8b0 : decide (8160 < a2) = true := decide_eq_true c8
            clear c8
            have H' := Aside0.mk H
            clear H
            go_wp2
            go_meet
            case rel => exact ⟨_, (true), (by first | rfl | (simp; done) | (simp [*]; done)), H', ⟨by first | omega | exact Nat.le_refl _⟩, ⟨by repeat (first | (with_reducible first | exact HB.out | apply below_alloc | apply pw_below_drewN | apply below_drew1) | exact HB.out)⟩⟩
          · rw [if_neg c8] at H
            have c8b0 : decide (8160 < a2) = false := decide_eq_false c8
            clear c8
            have H' := Aside0.mk H
            clear H
            go_wp2
            go_meet
            case rel => exact ⟨_, (decide ((a0.size : Int) > 65535)), (by first | rfl | (simp; done) | (simp [*]; done)), H', ⟨by first | omega | exact Nat.le_refl _⟩, ⟨by repeat (first | (with_reducible first | exact HB.out | apply below_alloc | apply pw_below_drewN | apply below_drew1) | exact HB.out)⟩⟩
  case rest =>
    clear HC4
    try clear c1
    try clear p2
    try clear c5
    try clear c5b0
    try clear c5b1
    try clear c6
    try clear c6b0
    try clear c6b1
    try clear c7
    try clear c7b0
    try clear c8
    try clear c8b0
    obtain ⟨kq, x33_3, rfl, HA, HJ3, HB⟩ := hcut
    cases kq with
    | zero => exact absurd HA.out (by simp [spec_ExpandMessage.j0])
    | succ kj3 =>
      have H := HA.out
      clear HA
      simp only [spec_ExpandMessage.j0] at H
      by_cases c9 : x33_3 = true
      · subst c9
        have H1 : (some ((⟨#[]⟩ : ByteArray), false)) = some (r1, r2) := by rw [if_pos rfl] at H; exact H
        clear H
        have H := H1
        clear H1
        simp only [Option.some.injEq, Prod.mk.injEq] at H
        obtain ⟨rfl, rfl⟩ := H
        go_wp2
        go_ret2
        exact ⟨by first | rfl | (simp [errW_none, errW_some] <;> rfl) | (simp [*, errW_none, errW_some] <;> rfl), by repeat (first | (with_reducible first | exact HB.out | apply below_alloc | apply pw_below_drewN | apply below_drew1) | exact HB.out)⟩
      · replace c9 := Bool.eq_false_iff.mpr c9
        subst c9
        have H1 : ((some (([((a1.size : Int)) % 256] : List Int) : List Int)).bind fun y354 => (if a1.size + (strOfNums y354).size ≤ 9223372036854775807 then ((spec_l1Long.f kj3 64 (⟨#[0]⟩ : ByteArray)).bind fun t357 => (if t357.size + a0.size ≤ 9223372036854775807 then ((some (([(wrap64 (Int.tdiv a2 256)) % 256, (a2) % 256, 0] : List Int) : List Int)).bind fun y358 => (if (t357 ++ a0).size + (strOfNums y358).size ≤ 9223372036854775807 then (if ((t357 ++ a0) ++ (strOfNums y358)).size + (a1 ++ (strOfNums y354)).size ≤ 9223372036854775807 then ((spec_Sha256.f (((t357 ++ a0) ++ (strOfNums y358)) ++ (a1 ++ (strOfNums y354)))).bind fun t361 => ((spec_l1Long.f kj3 32 (⟨#[0]⟩ : ByteArray)).bind fun t362 => (spec_ExpandMessage.l0 kj3 a2 (a1 ++ (strOfNums y354)) t361 t362 (⟨#[]⟩ : ByteArray) 1))) else (none)) else (none))) else (none))) else (none))) = some (r1, r2) := by rw [if_neg (show ¬ (false = true) by decide)] at H; exact H
        clear H
        have H := H1
        clear H1
        obtain ⟨y354, hy354⟩ : ∃ y_ : List Int, y_ = (([((a1.size : Int)) % 256] : List Int)) := ⟨_, rfl⟩
        replace H : (if a1.size + (strOfNums y354).size ≤ 9223372036854775807 then ((spec_l1Long.f kj3 64 (⟨#[0]⟩ : ByteArray)).bind fun t357 => (if t357.size + a0.size ≤ 9223372036854775807 then ((some (([(wrap64 (Int.tdiv a2 256)) % 256, (a2) % 256, 0] : List Int) : List Int)).bind fun y358 => (if (t357 ++ a0).size + (strOfNums y358).size ≤ 9223372036854775807 then (if ((t357 ++ a0) ++ (strOfNums y358)).size + (a1 ++ (strOfNums y354)).size ≤ 9223372036854775807 then ((spec_Sha256.f (((t357 ++ a0) ++ (strOfNums y358)) ++ (a1 ++ (strOfNums y354)))).bind fun t361 => ((spec_l1Long.f kj3 32 (⟨#[0]⟩ : ByteArray)).bind fun t362 => (spec_ExpandMessage.l0 kj3 a2 (a1 ++ (strOfNums y354)) t361 t362 (⟨#[]⟩ : ByteArray) 1))) else (none)) else (none))) else (none))) else (none)) = some (r1, r2) := by first | (rw [hy354]; with_reducible exact H) | (have H2_ := (Option.bind_some _ _).symm.trans H; rw [hy354]; with_reducible exact H2_) | (have H2_ := (Option.bind_some _ _).symm.trans H; with_reducible exact H2_) | with_reducible exact H | (rw [hy354]; exact H) | exact H
        have Ny354 := Aside0.mk hy354
        clear hy354
        by_cases c10 : a1.size + (strOfNums y354).size ≤ 9223372036854775807
        · rw [if_pos c10] at H
          have c10b0 := eq_true c10
          have c10b1 : decide (a1.size + (strOfNums y354).size ≤ 9223372036854775807) = true := decide_eq_true c10
          try have c10b2 : (9223372036854775807 < a1.size + (strOfNums y354).size) = False := eq_false (Nat.not_lt.2 c10)
          try (have c10b3 := c10b2; simp only [ByteArray.size_append] at c10b3)
          replace H := Option.bind_eq_some_iff.mp H
          obtain ⟨t357, A110, H⟩ := H
          replace H : (if t357.size + a0.size ≤ 9223372036854775807 then ((some (([(wrap64 (Int.tdiv a2 256)) % 256, (a2) % 256, 0] : List Int) : List Int)).bind fun y358 => (if (t357 ++ a0).size + (strOfNums y358).size ≤ 9223372036854775807 then (if ((t357 ++ a0) ++ (strOfNums y358)).size + (a1 ++ (strOfNums y354)).size ≤ 9223372036854775807 then ((spec_Sha256.f (((t357 ++ a0) ++ (strOfNums y358)) ++ (a1 ++ (strOfNums y354)))).bind fun t361 => ((spec_l1Long.f kj3 32 (⟨#[0]⟩ : ByteArray)).bind fun t362 => (spec_ExpandMessage.l0 kj3 a2 (a1 ++ (strOfNums y354)) t361 t362 (⟨#[]⟩ : ByteArray) 1))) else (none)) else (none))) else (none)) = some (r1, r2) := H
          have A11 := Aside0.mk A110
          clear A110
          by_cases c12 : t357.size + a0.size ≤ 9223372036854775807
          · rw [if_pos c12] at H
            have c12b0 := eq_true c12
            have c12b1 : decide (t357.size + a0.size ≤ 9223372036854775807) = true := decide_eq_true c12
            try have c12b2 : (9223372036854775807 < t357.size + a0.size) = False := eq_false (Nat.not_lt.2 c12)
            try (have c12b3 := c12b2; simp only [ByteArray.size_append] at c12b3)
            obtain ⟨y358, hy358⟩ : ∃ y_ : List Int, y_ = (([(wrap64 (Int.tdiv a2 256)) % 256, (a2) % 256, 0] : List Int)) := ⟨_, rfl⟩
            replace H : (if (t357 ++ a0).size + (strOfNums y358).size ≤ 9223372036854775807 then (if ((t357 ++ a0) ++ (strOfNums y358)).size + (a1 ++ (strOfNums y354)).size ≤ 9223372036854775807 then ((spec_Sha256.f (((t357 ++ a0) ++ (strOfNums y358)) ++ (a1 ++ (strOfNums y354)))).bind fun t361 => ((spec_l1Long.f kj3 32 (⟨#[0]⟩ : ByteArray)).bind fun t362 => (spec_ExpandMessage.l0 kj3 a2 (a1 ++ (strOfNums y354)) t361 t362 (⟨#[]⟩ : ByteArray) 1))) else (none)) else (none)) = some (r1, r2) := by first | (rw [hy358]; with_reducible exact H) | (have H2_ := (Option.bind_some _ _).symm.trans H; rw [hy358]; with_reducible exact H2_) | (have H2_ := (Option.bind_some _ _).symm.trans H; with_reducible exact H2_) | with_reducible exact H | (rw [hy358]; exact H) | exact H
            have Ny358 := Aside0.mk hy358
            clear hy358
            by_cases c13 : (t357 ++ a0).size + (strOfNums y358).size ≤ 9223372036854775807
            · rw [if_pos c13] at H
              have c13b0 := eq_true c13
              have c13b1 : decide ((t357 ++ a0).size + (strOfNums y358).size ≤ 9223372036854775807) = true := decide_eq_true c13
              try have c13b2 : (9223372036854775807 < (t357 ++ a0).size + (strOfNums y358).size) = False := eq_false (Nat.not_lt.2 c13)
              try (have c13b3 := c13b2; simp only [ByteArray.size_append] at c13b3)
              by_cases c14 : ((t357 ++ a0) ++ (strOfNums y358)).size + (a1 ++ (strOfNums y354)).size ≤ 9223372036854775807
              · rw [if_pos c14] at H
                have c14b0 := eq_true c14
                have c14b1 : decide (((t357 ++ a0) ++ (strOfNums y358)).size + (a1 ++ (strOfNums y354)).size ≤ 9223372036854775807) = true := decide_eq_true c14
                try have c14b2 : (9223372036854775807 < ((t357 ++ a0) ++ (strOfNums y358)).size + (a1 ++ (strOfNums y354)).size) = False := eq_false (Nat.not_lt.2 c14)
                try (have c14b3 := c14b2; simp only [ByteArray.size_append] at c14b3)
                replace H := Option.bind_eq_some_iff.mp H
                obtain ⟨t361, A150, H⟩ := H
                replace H : ((spec_l1Long.f kj3 32 (⟨#[0]⟩ : ByteArray)).bind fun t362 => (spec_ExpandMessage.l0 kj3 a2 (a1 ++ (strOfNums y354)) t361 t362 (⟨#[]⟩ : ByteArray) 1)) = some (r1, r2) := H
                have A15 := Aside0.mk A150
                clear A150
                replace H := Option.bind_eq_some_iff.mp H
                obtain ⟨t362, A160, H⟩ := H
                replace H : (spec_ExpandMessage.l0 kj3 a2 (a1 ++ (strOfNums y354)) t361 t362 (⟨#[]⟩ : ByteArray) 1) = some (r1, r2) := H
                have A16 := Aside0.mk A160
                clear A160
                have H' := Aside0.mk H
                clear H
                try go_wp2_with (first | ((with_reducible refine gate_dst (N := 38) rfl ?_); (try (refine gate_guard (by rfl) ?_; dsimp only)); refine Kd.R_lit (Kd.int .u8) _ 5 ?hg (N := 38) ?hd (xs := ([((a1.size : Int)) % 256] : List Int)) (inner := [.int .u8 (((a1.size : Int)) % 256)]) (ok := fun _ => True) (okp := fun _ => True) ?hr ?hp (fun _ hk => hk) trivial (Below.refl _ _) (Nat.le_refl _) (by simp) ?_; (case hd => rfl); (case hg => rfl); (case hr => first | (go_simp; done) | (go_simp; rfl)); (case hp => exact (Reps.one (show Kd.M (Kd.int .u8) _ _ _ (((a1.size : Int)) % 256) [.int .u8 (((a1.size : Int)) % 256)] from rfl) (Reps.none _ _))); intro v355 w17 ho18 hb hg_ hnew_; clear hg_ hnew_; (first | rw [← Ny354.out] at ho18 | (simp only [Int.reduceToNat] at ho18; rw [← Ny354.out] at ho18)); have n0_ := Aside0.mk (Kd.R_lower ho18 (below_size (by repeat (first | (with_reducible first | exact HB.out | apply below_alloc | apply pw_below_drewN | apply below_drew1) | exact HB.out)))); have n1_ := Aside0.mk (below_step (by repeat (first | (with_reducible first | exact HB.out | apply below_alloc | apply pw_below_drewN | apply below_drew1) | exact HB.out)) hb); clear HB; have HO356 := n0_; have HB := n1_; clear n0_ n1_; clear hb ho18; have hcv19 := own_string (P := Tryd.prog) Tryd.underlying22 Tryd.underlying5 Tryd.underlying9 (Kd.own_of_R HO356.out)))
                have n0_ := Aside0.mk (Kd.R_drew HO356.out)
                have n1_ := Aside0.mk (below_drew1 HB.out)
                clear HO356
                clear HB
                have HO356 := n0_
                have HB := n1_
                clear n0_ n1_
                refine start_ (n := 15) (S := fun w' => True) (ds := []) #[false, false, false, false, false, false, false, false, false, false, false, false, false, false, false] (by kernel_rfl) rfl rfl trivial (fun hHeld => ?_); refine with_tabW spec_ExpandMessage.tab4 spec_ExpandMessage.bits4 (fun HT_ HW_ => ?_)
                generalize w17.drew = w20 at HO356 HB hHeld ⊢
                refine pure_ (i := 1) (N := some 42) (v := ?_) (a' := ?_) #[false, true, false, false, false, false, false, false, false, false, false, false, false, false, false] rfl rfl (any_of HT_.out (by kernel_rfl)) (fun _ _ _ h => h) (Or.inl ⟨by rfl, ?_⟩) ?_ ?_
                rotate_left
                · intro w'
                  go_simp
                  with_reducible rfl
                rotate_left
                · simp only [Act.put, List.setIfInBounds_toArray, List.set_cons_zero, List.set_cons_succ, i64_w, i32_w]
                  rfl
                refine pure_ (i := 3) (N := some 44) (v := ?_) (a' := ?_) #[false, true, false, true, false, false, false, false, false, false, false, false, false, false, false] rfl rfl (any_of HT_.out (by kernel_rfl)) (fun _ _ _ h => h) (Or.inl ⟨by rfl, ?_⟩) ?_ ?_
                rotate_left
                · intro w'
                  go_simp
                  with_reducible rfl
                rotate_left
                · simp only [Act.put, List.setIfInBounds_toArray, List.set_cons_zero, List.set_cons_succ, i64_w, i32_w]
                  rfl
                refine pure_ (i := 4) (N := some 45) (v := ?_) (a' := ?_) #[false, true, false, true, true, false, false, false, false, false, false, false, false, false, false] rfl rfl (any_of HT_.out (by kernel_rfl)) (fun _ _ _ h => h) (Or.inl ⟨by rfl, ?_⟩) ?_ ?_
                rotate_left
                · intro w'
                  go_simp
                  with_reducible rfl
                rotate_left
                · simp only [Act.put, List.setIfInBounds_toArray, List.set_cons_zero, List.set_cons_succ, i64_w, i32_w]
                  rfl
                refine pure_ (i := 5) (N := some 46) (v := ?_) (a' := ?_) #[false, true, false, true, true, true, false, false, false, false, false, false, false, false, false] rfl rfl (any_of HT_.out (by kernel_rfl)) (fun _ _ _ h => h) (Or.inl ⟨by rfl, ?_⟩) ?_ ?_
                rotate_left
                · intro w'
                  go_simp
                  with_reducible rfl
                rotate_left
                · simp only [Act.put, List.setIfInBounds_toArray, List.set_cons_zero, List.set_cons_succ, i64_w, i32_w]
                  rfl
                refine pure_ (i := 6) (N := some 47) (v := ?_) (a' := ?_) #[false, true, false, true, true, true, true, false, false, false, false, false, false, false, false] rfl rfl (any_of HT_.out (by kernel_rfl)) (fun _ _ _ h => h) (Or.inl ⟨by rfl, ?_⟩) ?_ ?_
                rotate_left
                · intro w'
                  go_simp
                  with_reducible rfl
                rotate_left
                · simp only [Act.put, List.setIfInBounds_toArray, List.set_cons_zero, List.set_cons_succ, i64_w, i32_w]
                  rfl
                refine pure_ (i := 7) (N := some 48) (v := ?_) (a' := ?_) #[false, true, false, true, true, true, true, true, false, false, false, false, false, false, false] rfl rfl (any_of HT_.out (by kernel_rfl)) (fun _ _ _ h => h) (Or.inl ⟨by rfl, ?_⟩) ?_ ?_
                rotate_left
                · intro w'
                  go_simp
                  with_reducible rfl
                rotate_left
                · simp only [Act.put, List.setIfInBounds_toArray, List.set_cons_zero, List.set_cons_succ, i64_w, i32_w]
                  rfl
                refine pure_ (i := 11) (N := some 52) (v := ?_) (a' := ?_) #[false, true, false, true, true, true, true, true, false, false, false, true, false, false, false] rfl rfl (any_of HT_.out (by kernel_rfl)) (fun _ _ _ h => h) (Or.inl ⟨by rfl, ?_⟩) ?_ ?_
                rotate_left
                · intro w'
                  go_simp
                  with_reducible rfl
                rotate_left
                · simp only [Act.put, List.setIfInBounds_toArray, List.set_cons_zero, List.set_cons_succ, i64_w, i32_w]
                  rfl
                refine join_ (σ := Value) 4 #[true, true, true, true, true, true, true, true, true, true, false, true, false, false, false] (fun s_ => [(41, .string t357), (49, s_), (50, .string (strOfNums y358)), (43, .string (t357 ++ a0))]) (fun s_ w' => (Kd.R (Kd.int .u8) 5 w' w.heap.size (fun k_ => some k_ ≠ (s_ : Value).ownBlock) v355 y354) ∧ (Kd.R (Kd.int .u8) 5 w' w.heap.size (fun k_ => some k_ ≠ (v355 : Value).ownBlock) s_ y358) ∧ (Below w.heap.size w w')) ?_ ?_
                rotate_left
                · intro hCont
                  refine two_ (i := 0) (j := 8) (Ni := some 41) (Nj := some 49) #[true, true, false, true, true, true, true, true, false, false, false, true, false, false, false] #[false, true, false, true, true, true, true, true, true, false, false, true, false, false, false] rfl rfl rfl rfl (two_of HT_.out (by kernel_rfl)) (by decide) (by decide) (fun K hK => ?_) (fun K hK => ?_)
                  · skip
                    refine goes_ Tryd.func141 (by kernel_rfl) rfl #[.int .i64 64, .string (⟨#[0]⟩ : ByteArray)] (by rfl) rfl rfl (by (try simp only [List.map_toArray, List.map_cons, List.map_nil]); first | done | rfl | (simp only [List.length_drop, List.length_take]; rfl)) ?_
                    with_reducible refine (spec_l1Long.calls kj3 64 (⟨#[0]⟩ : ByteArray) t357 _ A11.out).mono ?_
                    rintro e w' ⟨rfl, ⟨nd, rfl⟩⟩
                    refine ⟨_, rfl, ?_⟩
                    refine hK.out _ _ trivial (fun hHeld => ?_)
                    clear hK K
                    refine norm_ (a' := ?_) ?_ ?_
                    rotate_left
                    · show Act.put _ (some 41) _ = _
                      simp only [Act.put, List.setIfInBounds_toArray, List.set_cons_zero, List.set_cons_succ, i64_w, i32_w]
                      rfl
                    refine pure_ (i := 2) (N := some 43) (v := ?_) (a' := ?_) #[true, true, true, true, true, true, true, true, false, false, false, true, false, false, false] rfl rfl (any_of HT_.out (by kernel_rfl)) (fun _ _ _ h => h) (Or.inl ⟨by rfl, ?_⟩) ?_ ?_
                    rotate_left
                    · intro w'
                      go_simp
                      with_reducible rfl
                    rotate_left
                    · simp only [Act.put, List.setIfInBounds_toArray, List.set_cons_zero, List.set_cons_succ, i64_w, i32_w]
                      rfl
                    refine one_ (i := 8) (N := some 49) #[true, true, true, true, true, true, true, true, true, false, false, true, false, false, false] rfl rfl (one_of HT_.out (by kernel_rfl)) (by decide) (fun K hK => ?_)
                    refine Kd.R_lit_step (Kd.int .u8) _ 5 ?hg (N := 49) ?hd (xs := ([(wrap64 (Int.tdiv a2 256)) % 256, (a2) % 256, 0] : List Int)) (inner := [.int .u8 ((wrap64 (Int.tdiv a2 256)) % 256), .int .u8 ((a2) % 256), .int .u8 0]) (ok := fun _ => True) (okp := fun _ => True) ?hr ?hp (fun _ hk => hk) trivial (Below.refl _ _) (Nat.le_refl _) (by simp) ?_; (case hd => rfl); (case hg => rfl); (case hr => first | (go_simp; done) | (go_simp; rfl)); (case hp => exact (Reps.one (show Kd.M (Kd.int .u8) _ _ _ ((wrap64 (Int.tdiv a2 256)) % 256) [.int .u8 ((wrap64 (Int.tdiv a2 256)) % 256)] from rfl) (Reps.one (show Kd.M (Kd.int .u8) _ _ _ ((a2) % 256) [.int .u8 ((a2) % 256)] from rfl) (Reps.one (show Kd.M (Kd.int .u8) _ _ _ 0 [.int .u8 0] from rfl) (Reps.none _ _)))))
                    intro v359 w21 ho22 hb hg_ hnew_
                    clear hg_ hnew_
                    (first | rw [← Ny358.out] at ho22 | (simp only [Int.reduceToNat] at ho22; rw [← Ny358.out] at ho22))
                    have n0_ := Aside0.mk (Kd.R_elder' (by (with_reducible repeat (first | apply Kd.R_alloc | apply Kd.R_drewN | apply Kd.R_drew)); exact HO356.out) (Kd.R_base ho22) hb)
                    have n1_ := Aside0.mk (Kd.R_lower (Kd.R_new' ho22 (Kd.R_lt (by (with_reducible repeat (first | apply Kd.R_alloc | apply Kd.R_drewN | apply Kd.R_drew)); exact HO356.out))) (below_size (by repeat (first | (with_reducible first | exact HB.out | apply below_alloc | apply pw_below_drewN | apply below_drew1) | exact HB.out))))
                    have n2_ := Aside0.mk (below_step (by repeat (first | (with_reducible first | exact HB.out | apply below_alloc | apply pw_below_drewN | apply below_drew1) | exact HB.out)) hb)
                    clear HO356
                    clear HB
                    have HO356 := n0_
                    have HO360 := n1_
                    have HB := n2_
                    clear n0_ n1_ n2_
                    clear hb ho22
                    refine hK.out _ _ trivial (fun hHeld => ?_)
                    clear hK K
                    refine norm_ (a' := ?_) ?_ ?_
                    rotate_left
                    · show Act.put _ (some 49) _ = _
                      simp only [Act.put, List.setIfInBounds_toArray, List.set_cons_zero, List.set_cons_succ, i64_w, i32_w]
                      rfl
                    refine one_ (i := 9) (N := some 50) #[true, true, true, true, true, true, true, true, true, true, false, true, false, false, false] rfl rfl (one_of HT_.out (by kernel_rfl)) (by decide) (fun K hK => ?_)
                    have hcv23 := own_string (P := Tryd.prog) Tryd.underlying22 Tryd.underlying5 Tryd.underlying9 (Kd.own_of_R HO360.out)
                    have hcv23d := fun nd_ : Nat => own_string (P := Tryd.prog) Tryd.underlying22 Tryd.underlying5 Tryd.underlying9 (pw_own_drewN (Kd.own_of_R HO360.out) nd_)
                    refine value_ (w1 := ?_) (v := ?_) (by rfl) rfl ?_ ?_
                    rotate_left 2
                    · go_simp
                      constructor
                      · rfl
                      · rfl
                    clear hcv23 hcv23d
                    refine hK.out _ _ trivial (fun hHeld => ?_)
                    clear hK K
                    refine norm_ (a' := ?_) ?_ ?_
                    rotate_left
                    · show Act.put _ (some 50) _ = _
                      simp only [Act.put, List.setIfInBounds_toArray, List.set_cons_zero, List.set_cons_succ, i64_w, i32_w]
                      rfl
                    exact norm_ (by simp only [putAll, Act.put, List.setIfInBounds_toArray, List.set_cons_zero, List.set_cons_succ]) (hCont (v359) _ ⟨(by (with_reducible repeat (first | apply Kd.R_alloc | apply Kd.R_drewN | apply Kd.R_drew)); exact Kd.R_mono HO356.out (fun _ hk => hk.2)), (by (with_reducible repeat (first | apply Kd.R_alloc | apply Kd.R_drewN | apply Kd.R_drew)); exact Kd.R_mono HO360.out (fun _ hk => hk.2)), (by repeat (first | (with_reducible first | exact HB.out | apply below_alloc | apply pw_below_drewN | apply below_drew1) | exact HB.out))⟩)
                  · skip
                    refine Kd.R_lit_step (Kd.int .u8) _ 5 ?hg (N := 49) ?hd (xs := ([(wrap64 (Int.tdiv a2 256)) % 256, (a2) % 256, 0] : List Int)) (inner := [.int .u8 ((wrap64 (Int.tdiv a2 256)) % 256), .int .u8 ((a2) % 256), .int .u8 0]) (ok := fun _ => True) (okp := fun _ => True) ?hr ?hp (fun _ hk => hk) trivial (Below.refl _ _) (Nat.le_refl _) (by simp) ?_; (case hd => rfl); (case hg => rfl); (case hr => first | (go_simp; done) | (go_simp; rfl)); (case hp => exact (Reps.one (show Kd.M (Kd.int .u8) _ _ _ ((wrap64 (Int.tdiv a2 256)) % 256) [.int .u8 ((wrap64 (Int.tdiv a2 256)) % 256)] from rfl) (Reps.one (show Kd.M (Kd.int .u8) _ _ _ ((a2) % 256) [.int .u8 ((a2) % 256)] from rfl) (Reps.one (show Kd.M (Kd.int .u8) _ _ _ 0 [.int .u8 0] from rfl) (Reps.none _ _)))))
                    intro v359 w21 ho22 hb hg_ hnew_
                    clear hg_ hnew_
                    (first | rw [← Ny358.out] at ho22 | (simp only [Int.reduceToNat] at ho22; rw [← Ny358.out] at ho22))
                    have n0_ := Aside0.mk (Kd.R_elder' (by (with_reducible repeat (first | apply Kd.R_alloc | apply Kd.R_drewN | apply Kd.R_drew)); exact HO356.out) (Kd.R_base ho22) hb)
                    have n1_ := Aside0.mk (Kd.R_lower (Kd.R_new' ho22 (Kd.R_lt (by (with_reducible repeat (first | apply Kd.R_alloc | apply Kd.R_drewN | apply Kd.R_drew)); exact HO356.out))) (below_size (by repeat (first | (with_reducible first | exact HB.out | apply below_alloc | apply pw_below_drewN | apply below_drew1) | exact HB.out))))
                    have n2_ := Aside0.mk (below_step (by repeat (first | (with_reducible first | exact HB.out | apply below_alloc | apply pw_below_drewN | apply below_drew1) | exact HB.out)) hb)
                    clear HO356
                    clear HB
                    have HO356 := n0_
                    have HO360 := n1_
                    have HB := n2_
                    clear n0_ n1_ n2_
                    clear hb ho22
                    refine hK.out _ _ trivial (fun hHeld => ?_)
                    clear hK K
                    refine norm_ (a' := ?_) ?_ ?_
                    rotate_left
                    · show Act.put _ (some 49) _ = _
                      simp only [Act.put, List.setIfInBounds_toArray, List.set_cons_zero, List.set_cons_succ, i64_w, i32_w]
                      rfl
                    refine two_ (i := 0) (j := 9) (Ni := some 41) (Nj := some 50) #[true, true, false, true, true, true, true, true, true, false, false, true, false, false, false] #[false, true, false, true, true, true, true, true, true, true, false, true, false, false, false] rfl rfl rfl rfl (two_of HT_.out (by kernel_rfl)) (by decide) (by decide) (fun K hK => ?_) (fun K hK => ?_)
                    · skip
                      refine goes_ Tryd.func141 (by kernel_rfl) rfl #[.int .i64 64, .string (⟨#[0]⟩ : ByteArray)] (by rfl) rfl rfl (by (try simp only [List.map_toArray, List.map_cons, List.map_nil]); first | done | rfl | (simp only [List.length_drop, List.length_take]; rfl)) ?_
                      with_reducible refine (spec_l1Long.calls kj3 64 (⟨#[0]⟩ : ByteArray) t357 _ A11.out).mono ?_
                      rintro e w' ⟨rfl, ⟨nd, rfl⟩⟩
                      refine ⟨_, rfl, ?_⟩
                      refine hK.out _ _ trivial (fun hHeld => ?_)
                      clear hK K
                      refine norm_ (a' := ?_) ?_ ?_
                      rotate_left
                      · show Act.put _ (some 41) _ = _
                        simp only [Act.put, List.setIfInBounds_toArray, List.set_cons_zero, List.set_cons_succ, i64_w, i32_w]
                        rfl
                      refine pure_ (i := 2) (N := some 43) (v := ?_) (a' := ?_) #[true, true, true, true, true, true, true, true, true, false, false, true, false, false, false] rfl rfl (any_of HT_.out (by kernel_rfl)) (fun _ _ _ h => h) (Or.inl ⟨by rfl, ?_⟩) ?_ ?_
                      rotate_left
                      · intro w'
                        go_simp
                        with_reducible rfl
                      rotate_left
                      · simp only [Act.put, List.setIfInBounds_toArray, List.set_cons_zero, List.set_cons_succ, i64_w, i32_w]
                        rfl
                      refine one_ (i := 9) (N := some 50) #[true, true, true, true, true, true, true, true, true, true, false, true, false, false, false] rfl rfl (one_of HT_.out (by kernel_rfl)) (by decide) (fun K hK => ?_)
                      have hcv23 := own_string (P := Tryd.prog) Tryd.underlying22 Tryd.underlying5 Tryd.underlying9 (Kd.own_of_R HO360.out)
                      have hcv23d := fun nd_ : Nat => own_string (P := Tryd.prog) Tryd.underlying22 Tryd.underlying5 Tryd.underlying9 (pw_own_drewN (Kd.own_of_R HO360.out) nd_)
                      refine value_ (w1 := ?_) (v := ?_) (by rfl) rfl ?_ ?_
                      rotate_left 2
                      · go_simp
                        constructor
                        · rfl
                        · rfl
                      clear hcv23 hcv23d
                      refine hK.out _ _ trivial (fun hHeld => ?_)
                      clear hK K
                      refine norm_ (a' := ?_) ?_ ?_
                      rotate_left
                      · show Act.put _ (some 50) _ = _
                        simp only [Act.put, List.setIfInBounds_toArray, List.set_cons_zero, List.set_cons_succ, i64_w, i32_w]
                        rfl
                      exact norm_ (by simp only [putAll, Act.put, List.setIfInBounds_toArray, List.set_cons_zero, List.set_cons_succ]) (hCont (v359) _ ⟨(by (with_reducible repeat (first | apply Kd.R_alloc | apply Kd.R_drewN | apply Kd.R_drew)); exact Kd.R_mono HO356.out (fun _ hk => hk.2)), (by (with_reducible repeat (first | apply Kd.R_alloc | apply Kd.R_drewN | apply Kd.R_drew)); exact Kd.R_mono HO360.out (fun _ hk => hk.2)), (by repeat (first | (with_reducible first | exact HB.out | apply below_alloc | apply pw_below_drewN | apply below_drew1) | exact HB.out))⟩)
                    · skip
                      have hcv23 := own_string (P := Tryd.prog) Tryd.underlying22 Tryd.underlying5 Tryd.underlying9 (Kd.own_of_R HO360.out)
                      have hcv23d := fun nd_ : Nat => own_string (P := Tryd.prog) Tryd.underlying22 Tryd.underlying5 Tryd.underlying9 (pw_own_drewN (Kd.own_of_R HO360.out) nd_)
                      refine value_ (w1 := ?_) (v := ?_) (by rfl) rfl ?_ ?_
                      rotate_left 2
                      · go_simp
                        constructor
                        · rfl
                        · rfl
                      clear hcv23 hcv23d
                      refine hK.out _ _ trivial (fun hHeld => ?_)
                      clear hK K
                      refine norm_ (a' := ?_) ?_ ?_
                      rotate_left
                      · show Act.put _ (some 50) _ = _
                        simp only [Act.put, List.setIfInBounds_toArray, List.set_cons_zero, List.set_cons_succ, i64_w, i32_w]
                        rfl
                      refine one_ (i := 0) (N := some 41) #[true, true, false, true, true, true, true, true, true, true, false, true, false, false, false] rfl rfl (one_of HT_.out (by kernel_rfl)) (by decide) (fun K hK => ?_)
                      refine goes_ Tryd.func141 (by kernel_rfl) rfl #[.int .i64 64, .string (⟨#[0]⟩ : ByteArray)] (by rfl) rfl rfl (by (try simp only [List.map_toArray, List.map_cons, List.map_nil]); first | done | rfl | (simp only [List.length_drop, List.length_take]; rfl)) ?_
                      with_reducible refine (spec_l1Long.calls kj3 64 (⟨#[0]⟩ : ByteArray) t357 _ A11.out).mono ?_
                      rintro e w' ⟨rfl, ⟨nd, rfl⟩⟩
                      refine ⟨_, rfl, ?_⟩
                      refine hK.out _ _ trivial (fun hHeld => ?_)
                      clear hK K
                      refine norm_ (a' := ?_) ?_ ?_
                      rotate_left
                      · show Act.put _ (some 41) _ = _
                        simp only [Act.put, List.setIfInBounds_toArray, List.set_cons_zero, List.set_cons_succ, i64_w, i32_w]
                        rfl
                      refine pure_ (i := 2) (N := some 43) (v := ?_) (a' := ?_) #[true, true, true, true, true, true, true, true, true, true, false, true, false, false, false] rfl rfl (any_of HT_.out (by kernel_rfl)) (fun _ _ _ h => h) (Or.inl ⟨by rfl, ?_⟩) ?_ ?_
                      rotate_left
                      · intro w'
                        go_simp
                        with_reducible rfl
                      rotate_left
                      · simp only [Act.put, List.setIfInBounds_toArray, List.set_cons_zero, List.set_cons_succ, i64_w, i32_w]
                        rfl
                      exact norm_ (by simp only [putAll, Act.put, List.setIfInBounds_toArray, List.set_cons_zero, List.set_cons_succ]) (hCont (v359) _ ⟨(by (with_reducible repeat (first | apply Kd.R_alloc | apply Kd.R_drewN | apply Kd.R_drew)); exact Kd.R_mono HO356.out (fun _ hk => hk.2)), (by (with_reducible repeat (first | apply Kd.R_alloc | apply Kd.R_drewN | apply Kd.R_drew)); exact Kd.R_mono HO360.out (fun _ hk => hk.2)), (by repeat (first | (with_reducible first | exact HB.out | apply below_alloc | apply pw_below_drewN | apply below_drew1) | exact HB.out))⟩)
                rintro v359 w24 ⟨h0_, h1_, h2_⟩
                have n0_ : Aside0 (Kd.R (Kd.int .u8) 5 w24 w.heap.size (fun k_ => some k_ ≠ (v359 : Value).ownBlock) v355 y354) := ⟨h0_⟩
                have n1_ : Aside0 (Kd.R (Kd.int .u8) 5 w24 w.heap.size (fun k_ => some k_ ≠ (v355 : Value).ownBlock) v359 y358) := ⟨h1_⟩
                have n2_ : Aside0 (Below w.heap.size w w24) := ⟨h2_⟩
                clear HO356
                clear HB
                clear h0_ h1_ h2_
                have HO356 := n0_
                have HO360 := n1_
                have HB := n2_
                clear n0_ n1_ n2_
                have hHeld := trivial
                refine norm_ (a' := ?_) ?_ ?_
                rotate_left
                · simp only [putAll, Act.put, List.setIfInBounds_toArray, List.set_cons_zero, List.set_cons_succ]
                  rfl
                refine pure_ (i := 10) (N := some 51) (v := ?_) (a' := ?_) #[true, true, true, true, true, true, true, true, true, true, true, true, false, false, false] rfl rfl (any_of HT_.out (by kernel_rfl)) (fun _ _ _ h => h) (Or.inl ⟨by rfl, ?_⟩) ?_ ?_
                rotate_left
                · intro w'
                  go_simp
                  with_reducible rfl
                rotate_left
                · simp only [Act.put, List.setIfInBounds_toArray, List.set_cons_zero, List.set_cons_succ, i64_w, i32_w]
                  rfl
                refine pure_ (i := 12) (N := some 53) (v := ?_) (a' := ?_) #[true, true, true, true, true, true, true, true, true, true, true, true, true, false, false] rfl rfl (any_of HT_.out (by kernel_rfl)) (fun _ _ _ h => h) (Or.inl ⟨by rfl, ?_⟩) ?_ ?_
                rotate_left
                · intro w'
                  go_simp
                  with_reducible rfl
                rotate_left
                · simp only [Act.put, List.setIfInBounds_toArray, List.set_cons_zero, List.set_cons_succ, i64_w, i32_w]
                  rfl
                refine one_ (i := 13) (N := some 54) #[true, true, true, true, true, true, true, true, true, true, true, true, true, true, false] rfl rfl (one_of HT_.out (by kernel_rfl)) (by decide) (fun K hK => ?_)
                refine goes_ Tryd.func124 (by kernel_rfl) rfl #[.string (((t357 ++ a0) ++ (strOfNums y358)) ++ (a1 ++ (strOfNums y354)))] (by rfl) rfl rfl (by (try simp only [List.map_toArray, List.map_cons, List.map_nil]); first | done | rfl | (simp only [List.length_drop, List.length_take]; rfl)) ?_
                with_reducible refine (spec_Sha256.calls (((t357 ++ a0) ++ (strOfNums y358)) ++ (a1 ++ (strOfNums y354))) t361 _ A15.out).mono ?_
                rintro e w25 ⟨rfl, hb⟩
                refine ⟨_, rfl, ?_⟩
                have n0_ := Aside0.mk (Kd.R_below (by (with_reducible repeat (first | apply Kd.R_alloc | apply Kd.R_drewN | apply Kd.R_drew)); exact HO356.out) hb)
                have n1_ := Aside0.mk (Kd.R_below (by (with_reducible repeat (first | apply Kd.R_alloc | apply Kd.R_drewN | apply Kd.R_drew)); exact HO360.out) hb)
                have n2_ := Aside0.mk (below_step (by repeat (first | (with_reducible first | exact HB.out | apply below_alloc | apply pw_below_drewN | apply below_drew1) | exact HB.out)) hb)
                clear HO356
                clear HO360
                clear HB
                have HO356 := n0_
                have HO360 := n1_
                have HB := n2_
                clear n0_ n1_ n2_
                (try clear hb)
                (try clear hb2)
                (try clear hk)
                (try clear hi)
                refine hK.out _ _ trivial (fun hHeld => ?_)
                clear hK K
                refine norm_ (a' := ?_) ?_ ?_
                rotate_left
                · show Act.put _ (some 54) _ = _
                  simp only [Act.put, List.setIfInBounds_toArray, List.set_cons_zero, List.set_cons_succ, i64_w, i32_w]
                  rfl
                refine pure_ (i := 14) (N := some 9) (v := ?_) (a' := ?_) #[true, true, true, true, true, true, true, true, true, true, true, true, true, true, true] rfl rfl (any_of HT_.out (by kernel_rfl)) (fun _ _ _ h => h) (Or.inl ⟨by rfl, ?_⟩) ?_ ?_
                rotate_left
                · intro w'
                  go_simp
                  with_reducible rfl
                rotate_left
                · simp only [Act.put, List.setIfInBounds_toArray, List.set_cons_zero, List.set_cons_succ, i64_w, i32_w]
                  rfl
                refine done_ (done_of HT_.out (by kernel_rfl)) ?_
                try go_wp2_with (first | ((with_reducible refine gate_callee (f := 141) rfl ?_); refine goesL_ (some 55) rfl rfl Tryd.func141 (by kernel_rfl) rfl #[.int .i64 32, .string (⟨#[0]⟩ : ByteArray)] rfl (by (try simp only [List.map_toArray, List.map_cons, List.map_nil]); first | done | rfl | (simp only [List.length_drop, List.length_take]; rfl)) ?_; (with_reducible refine (spec_l1Long.calls kj3 32 (⟨#[0]⟩ : ByteArray) t362 _ A16.out).mono ?_); rintro e w' ⟨rfl, ⟨nd, rfl⟩⟩; refine ⟨_, rfl, ?_⟩))
                go_loopg [10, 11, 12] kj3 (fun kq v10 v11 v12 w' => ∃ (x10_2 : ByteArray) (x11_2 : ByteArray) (x12_2 : Int), v10 = .string x10_2 ∧ v11 = .string x11_2 ∧ v12 = .int .i64 x12_2 ∧ Aside0 (spec_ExpandMessage.l0 kq a2 (a1 ++ (strOfNums y354)) t361 x10_2 x11_2 x12_2 = some (r1, r2)) ∧ Aside0 (kq ≤ kj3) ∧ Aside0 (Below w.heap.size w w'))
                case atStart => exact ⟨(t362), ((⟨#[]⟩ : ByteArray)), (1), (by first | rfl | (simp; done) | (simp [*]; done)), (by first | rfl | (simp; done) | (simp [*]; done)), (by first | rfl | (simp; done) | (simp [*]; done)), H', ⟨Nat.le_refl _⟩, ⟨by repeat (first | (with_reducible first | exact HB.out | apply below_alloc | apply pw_below_drewN | apply below_drew1) | exact HB.out)⟩⟩
                case round =>
                  clear H'
                  try clear c1
                  try clear hcv1
                  try clear p2
                  try clear hcv2
                  try clear c5
                  try clear c5b0
                  try clear c5b1
                  try clear c6
                  try clear c6b0
                  try clear c6b1
                  try clear p6
                  try clear c7
                  try clear c7b0
                  try clear c8
                  try clear c8b0
                  try clear c9
                  try clear c10
                  try clear c10b0
                  try clear c10b1
                  try clear c10b2
                  try clear c12
                  try clear c12b0
                  try clear c12b1
                  try clear c12b2
                  try clear c13
                  try clear c13b0
                  try clear c13b1
                  try clear c13b2
                  try clear c14
                  try clear c14b0
                  try clear c14b1
                  try clear c14b2
                  try clear hcv19
                  try clear hcv23
                  try clear p2
                  obtain ⟨x10_2, x11_2, x12_2, rfl, rfl, rfl, HA, HK2, HB⟩ := hrel
                  cases gk with
                  | zero => exact absurd HA.out (by simp [spec_ExpandMessage.l0])
                  | succ k2 =>
                    have H := HA.out
                    clear HA
                    simp only [spec_ExpandMessage.l0] at H
                    by_cases c26 : (x11_2.size : Int) < a2
                    · rw [if_pos c26] at H
                      have c26b0 : decide ((x11_2.size : Int) < a2) = true := decide_eq_true c26
                      clear c26
                      replace H := Option.bind_eq_some_iff.mp H
                      obtain ⟨t363, A270, H⟩ := H
                      replace H : ((some (([(x12_2) % 256] : List Int) : List Int)).bind fun y364 => (if t363.size + (strOfNums y364).size ≤ 9223372036854775807 then (if (t363 ++ (strOfNums y364)).size + (a1 ++ (strOfNums y354)).size ≤ 9223372036854775807 then ((spec_Sha256.f ((t363 ++ (strOfNums y364)) ++ (a1 ++ (strOfNums y354)))).bind fun t367 => (if x11_2.size + t367.size ≤ 9223372036854775807 then (spec_ExpandMessage.l0 k2 a2 (a1 ++ (strOfNums y354)) t361 t367 (x11_2 ++ t367) (wrap64 (x12_2 + 1))) else (none))) else (none)) else (none))) = some (r1, r2) := H
                      have A27 := Aside0.mk A270
                      clear A270
                      obtain ⟨y364, hy364⟩ : ∃ y_ : List Int, y_ = (([(x12_2) % 256] : List Int)) := ⟨_, rfl⟩
                      replace H : (if t363.size + (strOfNums y364).size ≤ 9223372036854775807 then (if (t363 ++ (strOfNums y364)).size + (a1 ++ (strOfNums y354)).size ≤ 9223372036854775807 then ((spec_Sha256.f ((t363 ++ (strOfNums y364)) ++ (a1 ++ (strOfNums y354)))).bind fun t367 => (if x11_2.size + t367.size ≤ 9223372036854775807 then (spec_ExpandMessage.l0 k2 a2 (a1 ++ (strOfNums y354)) t361 t367 (x11_2 ++ t367) (wrap64 (x12_2 + 1))) else (none))) else (none)) else (none)) = some (r1, r2) := by first | (rw [hy364]; with_reducible exact H) | (have H2_ := (Option.bind_some _ _).symm.trans H; rw [hy364]; with_reducible exact H2_) | (have H2_ := (Option.bind_some _ _).symm.trans H; with_reducible exact H2_) | with_reducible exact H | (rw [hy364]; exact H) | exact H
                      have Ny364 := Aside0.mk hy364
                      clear hy364
                      by_cases c28 : t363.size + (strOfNums y364).size ≤ 9223372036854775807
                      · rw [if_pos c28] at H
                        have c28b0 := eq_true c28
                        have c28b1 : decide (t363.size + (strOfNums y364).size ≤ 9223372036854775807) = true := decide_eq_true c28
                        try have c28b2 : (9223372036854775807 < t363.size + (strOfNums y364).size) = False := eq_false (Nat.not_lt.2 c28)
                        try (have c28b3 := c28b2; simp only [ByteArray.size_append] at c28b3)
                        by_cases c29 : (t363 ++ (strOfNums y364)).size + (a1 ++ (strOfNums y354)).size ≤ 9223372036854775807
                        · rw [if_pos c29] at H
                          have c29b0 := eq_true c29
                          have c29b1 : decide ((t363 ++ (strOfNums y364)).size + (a1 ++ (strOfNums y354)).size ≤ 9223372036854775807) = true := decide_eq_true c29
                          try have c29b2 : (9223372036854775807 < (t363 ++ (strOfNums y364)).size + (a1 ++ (strOfNums y354)).size) = False := eq_false (Nat.not_lt.2 c29)
                          try (have c29b3 := c29b2; simp only [ByteArray.size_append] at c29b3)
                          replace H := Option.bind_eq_some_iff.mp H
                          obtain ⟨t367, A300, H⟩ := H
                          replace H : (if x11_2.size + t367.size ≤ 9223372036854775807 then (spec_ExpandMessage.l0 k2 a2 (a1 ++ (strOfNums y354)) t361 t367 (x11_2 ++ t367) (wrap64 (x12_2 + 1))) else (none)) = some (r1, r2) := H
                          have A30 := Aside0.mk A300
                          clear A300
                          by_cases c31 : x11_2.size + t367.size ≤ 9223372036854775807
                          · rw [if_pos c31] at H
                            have c31b0 := eq_true c31
                            have c31b1 : decide (x11_2.size + t367.size ≤ 9223372036854775807) = true := decide_eq_true c31
                            try have c31b2 : (9223372036854775807 < x11_2.size + t367.size) = False := eq_false (Nat.not_lt.2 c31)
                            try (have c31b3 := c31b2; simp only [ByteArray.size_append] at c31b3)
                            have H' := Aside0.mk H
                            clear H
                            try go_wp2
                            have n0_ := Aside0.mk (below_drew1 HB.out)
                            clear HB
                            have HB := n0_
                            clear n0_
                            refine start_ (n := 12) (S := fun w' => True) (ds := []) #[false, false, false, false, false, false, false, false, false, false, false, false] (by kernel_rfl) rfl rfl trivial (fun hHeld => ?_); refine with_tabW spec_ExpandMessage.tab10 spec_ExpandMessage.bits10 (fun HT_ HW_ => ?_)
                            generalize wr.drew = w32 at HB hHeld ⊢
                            refine pure_ (i := 0) (N := some 62) (v := ?_) (a' := ?_) #[true, false, false, false, false, false, false, false, false, false, false, false] rfl rfl (any_of HT_.out (by kernel_rfl)) (fun _ _ _ h => h) (Or.inl ⟨by rfl, ?_⟩) ?_ ?_
                            rotate_left
                            · intro w'
                              go_simp
                              with_reducible rfl
                            rotate_left
                            · simp only [Act.put, List.setIfInBounds_toArray, List.set_cons_zero, List.set_cons_succ, i64_w, i32_w]
                              rfl
                            refine pure_ (i := 1) (N := some 63) (v := ?_) (a' := ?_) #[true, true, false, false, false, false, false, false, false, false, false, false] rfl rfl (any_of HT_.out (by kernel_rfl)) (fun _ _ _ h => h) (Or.inl ⟨by rfl, ?_⟩) ?_ ?_
                            rotate_left
                            · intro w'
                              go_simp
                              with_reducible rfl
                            rotate_left
                            · simp only [Act.put, List.setIfInBounds_toArray, List.set_cons_zero, List.set_cons_succ, i64_w, i32_w]
                              rfl
                            refine pure_ (i := 3) (N := some 65) (v := ?_) (a' := ?_) #[true, true, false, true, false, false, false, false, false, false, false, false] rfl rfl (any_of HT_.out (by kernel_rfl)) (fun _ _ _ h => h) (Or.inl ⟨by rfl, ?_⟩) ?_ ?_
                            rotate_left
                            · intro w'
                              go_simp
                              with_reducible rfl
                            rotate_left
                            · simp only [Act.put, List.setIfInBounds_toArray, List.set_cons_zero, List.set_cons_succ, i64_w, i32_w]
                              rfl
                            refine pure_ (i := 4) (N := some 66) (v := ?_) (a' := ?_) #[true, true, false, true, true, false, false, false, false, false, false, false] rfl rfl (any_of HT_.out (by kernel_rfl)) (fun _ _ _ h => h) (Or.inl ⟨by rfl, ?_⟩) ?_ ?_
                            rotate_left
                            · intro w'
                              go_simp
                              with_reducible rfl
                            rotate_left
                            · simp only [Act.put, List.setIfInBounds_toArray, List.set_cons_zero, List.set_cons_succ, i64_w, i32_w]
                              rfl
                            refine pure_ (i := 8) (N := some 70) (v := ?_) (a' := ?_) #[true, true, false, true, true, false, false, false, true, false, false, false] rfl rfl (any_of HT_.out (by kernel_rfl)) (fun _ _ _ h => h) (Or.inl ⟨by rfl, ?_⟩) ?_ ?_
                            rotate_left
                            · intro w'
                              go_simp
                              with_reducible rfl
                            rotate_left
                            · simp only [Act.put, List.setIfInBounds_toArray, List.set_cons_zero, List.set_cons_succ, i64_w, i32_w]
                              rfl
                            refine join_ (σ := Value) 4 #[true, true, true, true, true, true, true, false, true, false, false, false] (fun s_ => [(64, .string t363), (67, s_), (68, .string (strOfNums y364))]) (fun s_ w' => (Kd.R (Kd.int .u8) 5 w' w.heap.size (fun _ => True) s_ y364) ∧ (Below w.heap.size w w')) ?_ ?_
                            rotate_left
                            · intro hCont
                              refine two_ (i := 2) (j := 5) (Ni := some 64) (Nj := some 67) #[true, true, true, true, true, false, false, false, true, false, false, false] #[true, true, false, true, true, true, false, false, true, false, false, false] rfl rfl rfl rfl (two_of HT_.out (by kernel_rfl)) (by decide) (by decide) (fun K hK => ?_) (fun K hK => ?_)
                              · skip
                                refine goes_ Tryd.func160 (by kernel_rfl) rfl #[.string t361, .string x10_2] (by rfl) rfl rfl (by (try simp only [List.map_toArray, List.map_cons, List.map_nil]); first | done | rfl | (simp only [List.length_drop, List.length_take]; rfl)) ?_
                                with_reducible refine (spec_l4Both.calls k2 t361 x10_2 t363 _ A27.out).mono ?_
                                rintro e w33 ⟨rfl, hb⟩
                                refine ⟨_, rfl, ?_⟩
                                have n0_ := Aside0.mk (below_step (by repeat (first | (with_reducible first | exact HB.out | apply below_alloc | apply pw_below_drewN | apply below_drew1) | exact HB.out)) hb)
                                clear HB
                                have HB := n0_
                                clear n0_
                                (try clear hb)
                                (try clear hb2)
                                (try clear hk)
                                (try clear hi)
                                refine hK.out _ _ trivial (fun hHeld => ?_)
                                clear hK K
                                refine norm_ (a' := ?_) ?_ ?_
                                rotate_left
                                · show Act.put _ (some 64) _ = _
                                  simp only [Act.put, List.setIfInBounds_toArray, List.set_cons_zero, List.set_cons_succ, i64_w, i32_w]
                                  rfl
                                refine one_ (i := 5) (N := some 67) #[true, true, true, true, true, true, false, false, true, false, false, false] rfl rfl (one_of HT_.out (by kernel_rfl)) (by decide) (fun K hK => ?_)
                                refine Kd.R_lit_step (Kd.int .u8) _ 5 ?hg (N := 67) ?hd (xs := ([(x12_2) % 256] : List Int)) (inner := [.int .u8 ((x12_2) % 256)]) (ok := fun _ => True) (okp := fun _ => True) ?hr ?hp (fun _ hk => hk) trivial (Below.refl _ _) (Nat.le_refl _) (by simp) ?_; (case hd => rfl); (case hg => rfl); (case hr => first | (go_simp; done) | (go_simp; rfl)); (case hp => exact (Reps.one (show Kd.M (Kd.int .u8) _ _ _ ((x12_2) % 256) [.int .u8 ((x12_2) % 256)] from rfl) (Reps.none _ _)))
                                intro v365 w34 ho35 hb hg_ hnew_
                                clear hg_ hnew_
                                (first | rw [← Ny364.out] at ho35 | (simp only [Int.reduceToNat] at ho35; rw [← Ny364.out] at ho35))
                                have n0_ := Aside0.mk (Kd.R_lower ho35 (below_size (by repeat (first | (with_reducible first | exact HB.out | apply below_alloc | apply pw_below_drewN | apply below_drew1) | exact HB.out))))
                                have n1_ := Aside0.mk (below_step (by repeat (first | (with_reducible first | exact HB.out | apply below_alloc | apply pw_below_drewN | apply below_drew1) | exact HB.out)) hb)
                                clear HB
                                have HO366 := n0_
                                have HB := n1_
                                clear n0_ n1_
                                clear hb ho35
                                refine hK.out _ _ trivial (fun hHeld => ?_)
                                clear hK K
                                refine norm_ (a' := ?_) ?_ ?_
                                rotate_left
                                · show Act.put _ (some 67) _ = _
                                  simp only [Act.put, List.setIfInBounds_toArray, List.set_cons_zero, List.set_cons_succ, i64_w, i32_w]
                                  rfl
                                refine one_ (i := 6) (N := some 68) #[true, true, true, true, true, true, true, false, true, false, false, false] rfl rfl (one_of HT_.out (by kernel_rfl)) (by decide) (fun K hK => ?_)
                                have hcv36 := own_string (P := Tryd.prog) Tryd.underlying22 Tryd.underlying5 Tryd.underlying9 (Kd.own_of_R HO366.out)
                                have hcv36d := fun nd_ : Nat => own_string (P := Tryd.prog) Tryd.underlying22 Tryd.underlying5 Tryd.underlying9 (pw_own_drewN (Kd.own_of_R HO366.out) nd_)
                                refine value_ (w1 := ?_) (v := ?_) (by rfl) rfl ?_ ?_
                                rotate_left 2
                                · go_simp
                                  constructor
                                  · rfl
                                  · rfl
                                clear hcv36 hcv36d
                                refine hK.out _ _ trivial (fun hHeld => ?_)
                                clear hK K
                                refine norm_ (a' := ?_) ?_ ?_
                                rotate_left
                                · show Act.put _ (some 68) _ = _
                                  simp only [Act.put, List.setIfInBounds_toArray, List.set_cons_zero, List.set_cons_succ, i64_w, i32_w]
                                  rfl
                                exact norm_ (by simp only [putAll, Act.put, List.setIfInBounds_toArray, List.set_cons_zero, List.set_cons_succ]) (hCont (v365) _ ⟨(by (with_reducible repeat (first | apply Kd.R_alloc | apply Kd.R_drewN | apply Kd.R_drew)); exact HO366.out), (by repeat (first | (with_reducible first | exact HB.out | apply below_alloc | apply pw_below_drewN | apply below_drew1) | exact HB.out))⟩)
                              · skip
                                refine Kd.R_lit_step (Kd.int .u8) _ 5 ?hg (N := 67) ?hd (xs := ([(x12_2) % 256] : List Int)) (inner := [.int .u8 ((x12_2) % 256)]) (ok := fun _ => True) (okp := fun _ => True) ?hr ?hp (fun _ hk => hk) trivial (Below.refl _ _) (Nat.le_refl _) (by simp) ?_; (case hd => rfl); (case hg => rfl); (case hr => first | (go_simp; done) | (go_simp; rfl)); (case hp => exact (Reps.one (show Kd.M (Kd.int .u8) _ _ _ ((x12_2) % 256) [.int .u8 ((x12_2) % 256)] from rfl) (Reps.none _ _)))
                                intro v365 w33 ho34 hb hg_ hnew_
                                clear hg_ hnew_
                                (first | rw [← Ny364.out] at ho34 | (simp only [Int.reduceToNat] at ho34; rw [← Ny364.out] at ho34))
                                have n0_ := Aside0.mk (Kd.R_lower ho34 (below_size (by repeat (first | (with_reducible first | exact HB.out | apply below_alloc | apply pw_below_drewN | apply below_drew1) | exact HB.out))))
                                have n1_ := Aside0.mk (below_step (by repeat (first | (with_reducible first | exact HB.out | apply below_alloc | apply pw_below_drewN | apply below_drew1) | exact HB.out)) hb)
                                clear HB
                                have HO366 := n0_
                                have HB := n1_
                                clear n0_ n1_
                                clear hb ho34
                                refine hK.out _ _ trivial (fun hHeld => ?_)
                                clear hK K
                                refine norm_ (a' := ?_) ?_ ?_
                                rotate_left
                                · show Act.put _ (some 67) _ = _
                                  simp only [Act.put, List.setIfInBounds_toArray, List.set_cons_zero, List.set_cons_succ, i64_w, i32_w]
                                  rfl
                                refine two_ (i := 2) (j := 6) (Ni := some 64) (Nj := some 68) #[true, true, true, true, true, true, false, false, true, false, false, false] #[true, true, false, true, true, true, true, false, true, false, false, false] rfl rfl rfl rfl (two_of HT_.out (by kernel_rfl)) (by decide) (by decide) (fun K hK => ?_) (fun K hK => ?_)
                                · skip
                                  refine goes_ Tryd.func160 (by kernel_rfl) rfl #[.string t361, .string x10_2] (by rfl) rfl rfl (by (try simp only [List.map_toArray, List.map_cons, List.map_nil]); first | done | rfl | (simp only [List.length_drop, List.length_take]; rfl)) ?_
                                  with_reducible refine (spec_l4Both.calls k2 t361 x10_2 t363 _ A27.out).mono ?_
                                  rintro e w35 ⟨rfl, hb⟩
                                  refine ⟨_, rfl, ?_⟩
                                  have n0_ := Aside0.mk (Kd.R_below (by (with_reducible repeat (first | apply Kd.R_alloc | apply Kd.R_drewN | apply Kd.R_drew)); exact HO366.out) hb)
                                  have n1_ := Aside0.mk (below_step (by repeat (first | (with_reducible first | exact HB.out | apply below_alloc | apply pw_below_drewN | apply below_drew1) | exact HB.out)) hb)
                                  clear HO366
                                  clear HB
                                  have HO366 := n0_
                                  have HB := n1_
                                  clear n0_ n1_
                                  (try clear hb)
                                  (try clear hb2)
                                  (try clear hk)
                                  (try clear hi)
                                  refine hK.out _ _ trivial (fun hHeld => ?_)
                                  clear hK K
                                  refine norm_ (a' := ?_) ?_ ?_
                                  rotate_left
                                  · show Act.put _ (some 64) _ = _
                                    simp only [Act.put, List.setIfInBounds_toArray, List.set_cons_zero, List.set_cons_succ, i64_w, i32_w]
                                    rfl
                                  refine one_ (i := 6) (N := some 68) #[true, true, true, true, true, true, true, false, true, false, false, false] rfl rfl (one_of HT_.out (by kernel_rfl)) (by decide) (fun K hK => ?_)
                                  have hcv36 := own_string (P := Tryd.prog) Tryd.underlying22 Tryd.underlying5 Tryd.underlying9 (Kd.own_of_R HO366.out)
                                  have hcv36d := fun nd_ : Nat => own_string (P := Tryd.prog) Tryd.underlying22 Tryd.underlying5 Tryd.underlying9 (pw_own_drewN (Kd.own_of_R HO366.out) nd_)
                                  refine value_ (w1 := ?_) (v := ?_) (by rfl) rfl ?_ ?_
                                  rotate_left 2
                                  · go_simp
                                    constructor
                                    · rfl
                                    · rfl
                                  clear hcv36 hcv36d
                                  refine hK.out _ _ trivial (fun hHeld => ?_)
                                  clear hK K
                                  refine norm_ (a' := ?_) ?_ ?_
                                  rotate_left
                                  · show Act.put _ (some 68) _ = _
                                    simp only [Act.put, List.setIfInBounds_toArray, List.set_cons_zero, List.set_cons_succ, i64_w, i32_w]
                                    rfl
                                  exact norm_ (by simp only [putAll, Act.put, List.setIfInBounds_toArray, List.set_cons_zero, List.set_cons_succ]) (hCont (v365) _ ⟨(by (with_reducible repeat (first | apply Kd.R_alloc | apply Kd.R_drewN | apply Kd.R_drew)); exact HO366.out), (by repeat (first | (with_reducible first | exact HB.out | apply below_alloc | apply pw_below_drewN | apply below_drew1) | exact HB.out))⟩)
                                · skip
                                  have hcv35 := own_string (P := Tryd.prog) Tryd.underlying22 Tryd.underlying5 Tryd.underlying9 (Kd.own_of_R HO366.out)
                                  have hcv35d := fun nd_ : Nat => own_string (P := Tryd.prog) Tryd.underlying22 Tryd.underlying5 Tryd.underlying9 (pw_own_drewN (Kd.own_of_R HO366.out) nd_)
                                  refine value_ (w1 := ?_) (v := ?_) (by rfl) rfl ?_ ?_
                                  rotate_left 2
                                  · go_simp
                                    constructor
                                    · rfl
                                    · rfl
                                  clear hcv35 hcv35d
                                  refine hK.out _ _ trivial (fun hHeld => ?_)
                                  clear hK K
                                  refine norm_ (a' := ?_) ?_ ?_
                                  rotate_left
                                  · show Act.put _ (some 68) _ = _
                                    simp only [Act.put, List.setIfInBounds_toArray, List.set_cons_zero, List.set_cons_succ, i64_w, i32_w]
                                    rfl
                                  refine one_ (i := 2) (N := some 64) #[true, true, true, true, true, true, true, false, true, false, false, false] rfl rfl (one_of HT_.out (by kernel_rfl)) (by decide) (fun K hK => ?_)
                                  refine goes_ Tryd.func160 (by kernel_rfl) rfl #[.string t361, .string x10_2] (by rfl) rfl rfl (by (try simp only [List.map_toArray, List.map_cons, List.map_nil]); first | done | rfl | (simp only [List.length_drop, List.length_take]; rfl)) ?_
                                  with_reducible refine (spec_l4Both.calls k2 t361 x10_2 t363 _ A27.out).mono ?_
                                  rintro e w36 ⟨rfl, hb⟩
                                  refine ⟨_, rfl, ?_⟩
                                  have n0_ := Aside0.mk (Kd.R_below (by (with_reducible repeat (first | apply Kd.R_alloc | apply Kd.R_drewN | apply Kd.R_drew)); exact HO366.out) hb)
                                  have n1_ := Aside0.mk (below_step (by repeat (first | (with_reducible first | exact HB.out | apply below_alloc | apply pw_below_drewN | apply below_drew1) | exact HB.out)) hb)
                                  clear HO366
                                  clear HB
                                  have HO366 := n0_
                                  have HB := n1_
                                  clear n0_ n1_
                                  (try clear hb)
                                  (try clear hb2)
                                  (try clear hk)
                                  (try clear hi)
                                  refine hK.out _ _ trivial (fun hHeld => ?_)
                                  clear hK K
                                  refine norm_ (a' := ?_) ?_ ?_
                                  rotate_left
                                  · show Act.put _ (some 64) _ = _
                                    simp only [Act.put, List.setIfInBounds_toArray, List.set_cons_zero, List.set_cons_succ, i64_w, i32_w]
                                    rfl
                                  exact norm_ (by simp only [putAll, Act.put, List.setIfInBounds_toArray, List.set_cons_zero, List.set_cons_succ]) (hCont (v365) _ ⟨(by (with_reducible repeat (first | apply Kd.R_alloc | apply Kd.R_drewN | apply Kd.R_drew)); exact HO366.out), (by repeat (first | (with_reducible first | exact HB.out | apply below_alloc | apply pw_below_drewN | apply below_drew1) | exact HB.out))⟩)
                            rintro v365 w37 ⟨h0_, h1_⟩
                            have n0_ : Aside0 (Kd.R (Kd.int .u8) 5 w37 w.heap.size (fun _ => True) v365 y364) := ⟨h0_⟩
                            have n1_ : Aside0 (Below w.heap.size w w37) := ⟨h1_⟩
                            clear HB
                            clear h0_ h1_
                            have HO366 := n0_
                            have HB := n1_
                            clear n0_ n1_
                            have hHeld := trivial
                            refine norm_ (a' := ?_) ?_ ?_
                            rotate_left
                            · simp only [putAll, Act.put, List.setIfInBounds_toArray, List.set_cons_zero, List.set_cons_succ]
                              rfl
                            refine pure_ (i := 7) (N := some 69) (v := ?_) (a' := ?_) #[true, true, true, true, true, true, true, true, true, false, false, false] rfl rfl (any_of HT_.out (by kernel_rfl)) (fun _ _ _ h => h) (Or.inl ⟨by rfl, ?_⟩) ?_ ?_
                            rotate_left
                            · intro w'
                              go_simp
                              with_reducible rfl
                            rotate_left
                            · simp only [Act.put, List.setIfInBounds_toArray, List.set_cons_zero, List.set_cons_succ, i64_w, i32_w]
                              rfl
                            refine pure_ (i := 9) (N := some 71) (v := ?_) (a' := ?_) #[true, true, true, true, true, true, true, true, true, true, false, false] rfl rfl (any_of HT_.out (by kernel_rfl)) (fun _ _ _ h => h) (Or.inl ⟨by rfl, ?_⟩) ?_ ?_
                            rotate_left
                            · intro w'
                              go_simp
                              with_reducible rfl
                            rotate_left
                            · simp only [Act.put, List.setIfInBounds_toArray, List.set_cons_zero, List.set_cons_succ, i64_w, i32_w]
                              rfl
                            refine one_ (i := 10) (N := some 72) #[true, true, true, true, true, true, true, true, true, true, true, false] rfl rfl (one_of HT_.out (by kernel_rfl)) (by decide) (fun K hK => ?_)
                            refine goes_ Tryd.func124 (by kernel_rfl) rfl #[.string ((t363 ++ (strOfNums y364)) ++ (a1 ++ (strOfNums y354)))] (by rfl) rfl rfl (by (try simp only [List.map_toArray, List.map_cons, List.map_nil]); first | done | rfl | (simp only [List.length_drop, List.length_take]; rfl)) ?_
                            with_reducible refine (spec_Sha256.calls ((t363 ++ (strOfNums y364)) ++ (a1 ++ (strOfNums y354))) t367 _ A30.out).mono ?_
                            rintro e w38 ⟨rfl, hb⟩
                            refine ⟨_, rfl, ?_⟩
                            have n0_ := Aside0.mk (Kd.R_below (by (with_reducible repeat (first | apply Kd.R_alloc | apply Kd.R_drewN | apply Kd.R_drew)); exact HO366.out) hb)
                            have n1_ := Aside0.mk (below_step (by repeat (first | (with_reducible first | exact HB.out | apply below_alloc | apply pw_below_drewN | apply below_drew1) | exact HB.out)) hb)
                            clear HO366
                            clear HB
                            have HO366 := n0_
                            have HB := n1_
                            clear n0_ n1_
                            (try clear hb)
                            (try clear hb2)
                            (try clear hk)
                            (try clear hi)
                            refine hK.out _ _ trivial (fun hHeld => ?_)
                            clear hK K
                            refine norm_ (a' := ?_) ?_ ?_
                            rotate_left
                            · show Act.put _ (some 72) _ = _
                              simp only [Act.put, List.setIfInBounds_toArray, List.set_cons_zero, List.set_cons_succ, i64_w, i32_w]
                              rfl
                            refine pure_ (i := 11) (N := some 10) (v := ?_) (a' := ?_) #[true, true, true, true, true, true, true, true, true, true, true, true] rfl rfl (any_of HT_.out (by kernel_rfl)) (fun _ _ _ h => h) (Or.inl ⟨by rfl, ?_⟩) ?_ ?_
                            rotate_left
                            · intro w'
                              go_simp
                              with_reducible rfl
                            rotate_left
                            · simp only [Act.put, List.setIfInBounds_toArray, List.set_cons_zero, List.set_cons_succ, i64_w, i32_w]
                              rfl
                            refine done_ (done_of HT_.out (by kernel_rfl)) ?_
                            try go_wp2
                            go_roundg k2
                            case measure => have := HJ3.out; have := HK2.out; omega
                            case rel => exact ⟨(t367), (x11_2 ++ t367), (wrap64 (x12_2 + 1)), (by first | rfl | (simp; done) | (simp [*]; done)), (by first | rfl | (simp; done) | (simp [*]; done)), (by first | rfl | (simp; done) | (simp [*]; done)), H', ⟨by have := HJ3.out; have := HK2.out; omega⟩, ⟨by repeat (first | (with_reducible first | exact HB.out | apply below_alloc | apply pw_below_drewN | apply below_drew1) | exact HB.out)⟩⟩
                          · rw [if_neg c31] at H
                            exact absurd H (by simp)
                        · rw [if_neg c29] at H
                          exact absurd H (by simp)
                      · rw [if_neg c28] at H
                        exact absurd H (by simp)
                    · rw [if_neg c26] at H
                      have c26b0 : decide ((x11_2.size : Int) < a2) = false := decide_eq_false c26
                      clear c26
                      by_cases c39 : 0 ≤ a2
                      · rw [if_pos c39] at H
                        have c39b0 := eq_true c39
                        have c39b1 : decide (0 ≤ a2) = true := decide_eq_true c39
                        clear c39
                        by_cases c40 : a2 ≤ (x11_2.size : Int)
                        · rw [if_pos c40] at H
                          have c40b0 := eq_true c40
                          have c40b1 : decide (a2 ≤ (x11_2.size : Int)) = true := decide_eq_true c40
                          clear c40
                          simp only [Option.some.injEq, Prod.mk.injEq] at H
                          obtain ⟨rfl, rfl⟩ := H
                          go_wp2
                          go_ret2
                          exact ⟨by first | rfl | (simp [errW_none, errW_some] <;> rfl) | (simp [*, errW_none, errW_some] <;> rfl), by repeat (first | (with_reducible first | exact HB.out | apply below_alloc | apply pw_below_drewN | apply below_drew1) | exact HB.out)⟩
                        · rw [if_neg c40] at H
                          exact absurd H (by simp)
                      · rw [if_neg c39] at H
                        exact absurd H (by simp)
              · rw [if_neg c14] at H
                exact absurd H (by simp)
            · rw [if_neg c13] at H
              exact absurd H (by simp)
          · rw [if_neg c12] at H
            exact absurd H (by simp)
        · rw [if_neg c10] at H
          exact absurd H (by simp)

end Go.Proofs.YtoejhekppfgmpaaDoor.C
end
section
namespace Go.Proofs.YtoejhekppfgmpaaDoor.C
open Go.RowKit Go.Proofs.YtoejhekppfgmpaaDoor.B Go.Proofs.YtoejhekppfgmpaaDoor.H0 Go.Proofs.YtoejhekppfgmpaaDoor.F0 Go.Proofs.YtoejhekppfgmpaaDoor.KG2 Go.Proofs.YtoejhekppfgmpaaDoorW.PrintWords Go.Proofs.YtoejhekppfgmpaaDoorW.PrintLast Go.Proofs.YtoejhekppfgmpaaDoorW.PrintMore
attribute [local go_sem high] field_num_fieldP   -- for this text's walks alone
attribute [local go_sem] max2_int min2_int max_two min_two max_three min_three max_four min_four   -- for this text's walks alone
set_option linter.unusedVariables false
set_option linter.unusedSimpArgs false
mutual
def spec_HashToField.j0 : Nat → ByteArray → ByteArray → Int → Int → List Int → Bool → Option (List Int × Bool)
  | 0, _, _, _, _, _, _ => none
  | k + 1, x0, x1, x2, x3, x10, x24 => if x24 = true then (some (x10, false)) else ((spec_ExpandMessage.f k x0 x1 (wrap64 (24 * x3))).bind fun bt371 => (spec_HashToField.l0 k x2 x3 x10 bt371.1 bt371.2 0))
def spec_HashToField.l0 : Nat → Int → Int → List Int → ByteArray → Bool → Int → Option (List Int × Bool)
  | 0, _, _, _, _, _, _ => none
  | k + 1, x2, x3, x10, x11, x12, x13 => if x13 < x3 then (if x12 = true then (if 0 ≤ (wrap64 (24 * x13)) then (if (wrap64 (24 * x13)) ≤ (wrap64 ((wrap64 (24 * x13)) + 24)) then (if (wrap64 ((wrap64 (24 * x13)) + 24)) ≤ (x11.size : Int) then ((spec_Reduce.f k (x11.extract ((wrap64 (24 * x13)) : Int).toNat ((wrap64 ((wrap64 (24 * x13)) + 24)) : Int).toNat) x2).bind fun t373 => (if x10.length < 17592186044416 then (spec_HashToField.l0 k x2 x3 (x10 ++ [t373]) x11 x12 (wrap64 (x13 + 1))) else (none))) else (none)) else (none)) else (none)) else (some (x10, x12))) else (some (x10, x12))
end
def spec_HashToField.f (k : Nat) (a0 : ByteArray) (a1 : ByteArray) (a2 : Int) (a3 : Int) : Option (List Int × Bool) := (some (([] : List Int) : List Int)).bind fun y368 => (if a3 < 1 then (spec_HashToField.j0 k a0 a1 a2 a3 y368 true) else (if a3 > 340 then (spec_HashToField.j0 k a0 a1 a2 a3 y368 true) else (spec_HashToField.j0 k a0 a1 a2 a3 y368 (a2 == 0))))
set_option maxHeartbeats 8000000 in
set_option maxRecDepth 100000 in
theorem spec_HashToField.calls (k : Nat) (a0 : ByteArray) (a1 : ByteArray) (a2 : Int) (a3 : Int) (r1 : List Int) (r2 : Bool) (w : World) (h : spec_HashToField.f k a0 a1 a2 a3 = some (r1, r2)) :
    Calls Tryd.prog 81 #[.string a0, .string a1, .int .u64 a2, .int .i64 a3] w fun e w' => ∃ v0_ : Value, e = .returned (.tuple #[v0_, .bool r2]) ∧ Kd.R (Kd.int .u64) 23 w' w.heap.size (fun _ => True) v0_ r1 ∧ Below w.heap.size w w' := by
  have HB := Aside0.mk (Below.refl w.heap.size w)
  have H : ((some (([] : List Int) : List Int)).bind fun y368 => (if a3 < 1 then (spec_HashToField.j0 k a0 a1 a2 a3 y368 true) else (if a3 > 340 then (spec_HashToField.j0 k a0 a1 a2 a3 y368 true) else (spec_HashToField.j0 k a0 a1 a2 a3 y368 (a2 == 0))))) = some (r1, r2) := h
  clear h
  obtain ⟨y368, hy368⟩ : ∃ y_ : List Int, y_ = (([] : List Int)) := ⟨_, rfl⟩
  replace H : (if a3 < 1 then (spec_HashToField.j0 k a0 a1 a2 a3 y368 true) else (if a3 > 340 then (spec_HashToField.j0 k a0 a1 a2 a3 y368 true) else (spec_HashToField.j0 k a0 a1 a2 a3 y368 (a2 == 0)))) = some (r1, r2) := by first | (rw [hy368]; with_reducible exact H) | (have H2_ := (Option.bind_some _ _).symm.trans H; rw [hy368]; with_reducible exact H2_) | (have H2_ := (Option.bind_some _ _).symm.trans H; with_reducible exact H2_) | with_reducible exact H | (rw [hy368]; exact H) | exact H
  have Ny368 := Aside0.mk hy368
  clear hy368
  have HC5 := Aside0.mk H
  clear H
  go_enter Tryd.func81, Tryd.ntmps81
  go_upto_region 2 with (first | ((with_reducible refine gate_dst (N := 14) rfl ?_); refine Kd.R_lit (Kd.int .u64) _ 23 ?hg (N := 14) ?hd (xs := ([] : List Int)) (inner := []) (ok := fun _ => True) (okp := fun _ => True) ?hr ?hp (fun _ hk => hk) trivial (Below.refl _ _) (Nat.le_refl _) (by simp) ?_; (case hd => rfl); (case hg => rfl); (case hr => first | (go_simp; done) | (go_simp; rfl)); (case hp => exact (Reps.none _ _)); intro v369 w6 ho7 hb hg_ hnew_; clear hg_ hnew_; (first | rw [← Ny368.out] at ho7 | (simp only [Int.reduceToNat] at ho7; rw [← Ny368.out] at ho7)); have n0_ := Aside0.mk (Kd.R_lower ho7 (below_size (by repeat (first | (with_reducible first | exact HB.out | apply below_alloc | apply pw_below_drewN | apply below_drew1) | exact HB.out)))); have n1_ := Aside0.mk (below_step (by repeat (first | (with_reducible first | exact HB.out | apply below_alloc | apply pw_below_drewN | apply below_drew1) | exact HB.out)) hb); clear HB; have HO370 := n0_; have HB := n1_; clear n0_ n1_; clear hb ho7))
  (try simp only [Act.put, List.setIfInBounds_toArray, List.set_cons_zero, List.set_cons_succ])
  go_cut [24] (fun v24 wc => ∃ (kq : Nat) (x24_4 : Bool), v24 = .bool x24_4 ∧ Aside0 (spec_HashToField.j0 kq a0 a1 a2 a3 y368 x24_4 = some (r1, r2)) ∧ Aside0 (kq ≤ k) ∧ Aside0 (Kd.R (Kd.int .u64) 23 wc w.heap.size (fun _ => True) v369 y368) ∧ Aside0 (Below w.heap.size w wc))
  case first =>
    have H := HC5.out
    clear HC5
    by_cases c8 : a3 < 1
    · rw [if_pos c8] at H
      have c8b0 : decide (a3 < 1) = true := decide_eq_true c8
      clear c8
      (first | rw [c8b0] | (simp only [i64_w, i32_w]; rw [c8b0]) | skip)
      have H' := Aside0.mk H
      clear H
      go_wp2
      go_meet
      case rel => exact ⟨_, (true), (by first | rfl | (simp; done) | (simp [*]; done)), H', ⟨by first | omega | exact Nat.le_refl _⟩, ⟨by (with_reducible repeat (first | apply Kd.R_alloc | apply Kd.R_drewN | apply Kd.R_drew)); exact HO370.out⟩, ⟨by repeat (first | (with_reducible first | exact HB.out | apply below_alloc | apply pw_below_drewN | apply below_drew1) | exact HB.out)⟩⟩
    · rw [if_neg c8] at H
      have c8b0 : decide (a3 < 1) = false := decide_eq_false c8
      clear c8
      (first | rw [c8b0] | (simp only [i64_w, i32_w]; rw [c8b0]) | skip)
      by_cases c9 : a3 > 340
      · rw [if_pos c9] at H
        have c9b0 : decide (340 < a3) = true := decide_eq_true c9
        clear c9
        have H' := Aside0.mk H
        clear H
        go_wp2
        go_meet
        case rel => exact ⟨_, (true), (by first | rfl | (simp; done) | (simp [*]; done)), H', ⟨by first | omega | exact Nat.le_refl _⟩, ⟨by (with_reducible repeat (first | apply Kd.R_alloc | apply Kd.R_drewN | apply Kd.R_drew)); exact HO370.out⟩, ⟨by repeat (first | (with_reducible first | exact HB.out | apply below_alloc | apply pw_below_drewN | apply below_drew1) | exact HB.out)⟩⟩
      · rw [if_neg c9] at H
        have c9b0 : decide (340 < a3) = false := decide_eq_false c9
        clear c9
        have H' := Aside0.mk H
        clear H
        go_wp2
        go_meet
        case rel => exact ⟨_, ((a2 == 0)), (by first | rfl | (simp; done) | (simp [*]; done)), H', ⟨by first | omega | exact Nat.le_refl _⟩, ⟨by (with_reducible repeat (first | apply Kd.R_alloc | apply Kd.R_drewN | apply Kd.R_drew)); exact HO370.out⟩, ⟨by repeat (first | (with_reducible first | exact HB.out | apply below_alloc | apply pw_below_drewN | apply below_drew1) | exact HB.out)⟩⟩
  case rest =>
    clear HC5
    try clear p2
    try clear c8
    try clear c8b0
    try clear c9
    try clear c9b0
    obtain ⟨kq, x24_4, rfl, HA, HJ4, HO_10, HB⟩ := hcut
    cases kq with
    | zero => exact absurd HA.out (by simp [spec_HashToField.j0])
    | succ kj4 =>
      have H := HA.out
      clear HA
      simp only [spec_HashToField.j0] at H
      by_cases c10 : x24_4 = true
      · subst c10
        have H1 : (some (y368, false)) = some (r1, r2) := by rw [if_pos rfl] at H; exact H
        clear H
        have H := H1
        clear H1
        simp only [Option.some.injEq, Prod.mk.injEq] at H
        obtain ⟨rfl, rfl⟩ := H
        go_wp2
        go_ret2
        exact ⟨_, by first | rfl | (simp [errW_none, errW_some] <;> rfl) | (simp [*, errW_none, errW_some] <;> rfl), by (with_reducible repeat (first | apply Kd.R_alloc | apply Kd.R_drewN | apply Kd.R_drew)); exact HO_10.out, by repeat (first | (with_reducible first | exact HB.out | apply below_alloc | apply pw_below_drewN | apply below_drew1) | exact HB.out)⟩
      · replace c10 := Bool.eq_false_iff.mpr c10
        subst c10
        have H1 : ((spec_ExpandMessage.f kj4 a0 a1 (wrap64 (24 * a3))).bind fun bt371 => (spec_HashToField.l0 kj4 a2 a3 y368 bt371.1 bt371.2 0)) = some (r1, r2) := by rw [if_neg (show ¬ (false = true) by decide)] at H; exact H
        clear H
        have H := H1
        clear H1
        replace H := Option.bind_eq_some_iff.mp H
        obtain ⟨⟨t371, t372⟩, A110, H⟩ := H
        replace H : (spec_HashToField.l0 kj4 a2 a3 y368 t371 t372 0) = some (r1, r2) := H
        have A11 := Aside0.mk A110
        clear A110
        have H' := Aside0.mk H
        clear H
        go_wp2_with (first | ((with_reducible refine gate_callee (f := 132) rfl ?_); refine goesL_ (some 31) rfl rfl Tryd.func132 (by kernel_rfl) rfl #[.string a0, .string a1, .int .i64 (wrap64 (24 * a3))] rfl (by (try simp only [List.map_toArray, List.map_cons, List.map_nil]); first | done | rfl | (simp only [List.length_drop, List.length_take]; rfl)) ?_; (with_reducible refine (spec_ExpandMessage.calls kj4 a0 a1 (wrap64 (24 * a3)) t371 t372 _ A11.out).mono ?_); rintro e w12 ⟨rfl, hb⟩; refine ⟨_, rfl, ?_⟩; have n0_ := Aside0.mk (Kd.R_below (by (with_reducible repeat (first | apply Kd.R_alloc | apply Kd.R_drewN | apply Kd.R_drew)); exact HO_10.out) hb); have n1_ := Aside0.mk (below_step (by repeat (first | (with_reducible first | exact HB.out | apply below_alloc | apply pw_below_drewN | apply below_drew1) | exact HB.out)) hb); clear HO_10; clear HB; have HO_10 := n0_; have HB := n1_; clear n0_ n1_; (try clear hb); (try clear hb2); (try clear hk); (try clear hi)))
        go_loopg [10, 13] kj4 (fun kq v10 v13 w' => ∃ (x10_2 : List Int) (x13_2 : Int), v13 = .int .i64 x13_2 ∧ Aside0 (spec_HashToField.l0 kq a2 a3 x10_2 t371 t372 x13_2 = some (r1, r2)) ∧ Aside0 (kq ≤ kj4) ∧ Aside0 (Kd.R (Kd.int .u64) 23 w' w.heap.size (fun _ => True) v10 x10_2) ∧ Aside0 (Below w.heap.size w w'))
        case atStart => exact ⟨(y368), (0), (by first | rfl | (simp; done) | (simp [*]; done)), H', ⟨Nat.le_refl _⟩, ⟨by (with_reducible repeat (first | apply Kd.R_alloc | apply Kd.R_drewN | apply Kd.R_drew)); exact HO_10.out⟩, ⟨by repeat (first | (with_reducible first | exact HB.out | apply below_alloc | apply pw_below_drewN | apply below_drew1) | exact HB.out)⟩⟩
        case round =>
          clear H'
          try clear c1
          try clear p2
          try clear p6
          try clear c8
          try clear c8b0
          try clear c9
          try clear c9b0
          try clear c10
          try clear p2
          obtain ⟨x10_2, x13_2, rfl, HA, HK2, HO_10, HB⟩ := hrel
          cases gk with
          | zero => exact absurd HA.out (by simp [spec_HashToField.l0])
          | succ k2 =>
            have H := HA.out
            clear HA
            simp only [spec_HashToField.l0] at H
            by_cases c13 : x13_2 < a3
            · rw [if_pos c13] at H
              have c13b0 : decide (x13_2 < a3) = true := decide_eq_true c13
              clear c13
              by_cases c14 : t372 = true
              · subst c14
                have H1 : (if 0 ≤ (wrap64 (24 * x13_2)) then (if (wrap64 (24 * x13_2)) ≤ (wrap64 ((wrap64 (24 * x13_2)) + 24)) then (if (wrap64 ((wrap64 (24 * x13_2)) + 24)) ≤ (t371.size : Int) then ((spec_Reduce.f k2 (t371.extract ((wrap64 (24 * x13_2)) : Int).toNat ((wrap64 ((wrap64 (24 * x13_2)) + 24)) : Int).toNat) a2).bind fun t373 => (if x10_2.length < 17592186044416 then (spec_HashToField.l0 k2 a2 a3 (x10_2 ++ [t373]) t371 true (wrap64 (x13_2 + 1))) else (none))) else (none)) else (none)) else (none)) = some (r1, r2) := by rw [if_pos rfl] at H; exact H
                clear H
                have H := H1
                clear H1
                obtain ⟨ji15, hji15⟩ : ∃ j_ : Int, (wrap64 (24 * x13_2)) = j_ := ⟨_, rfl⟩
                replace H : (if 0 ≤ (ji15) then (if (ji15) ≤ (wrap64 ((ji15) + 24)) then (if (wrap64 ((ji15) + 24)) ≤ (t371.size : Int) then ((spec_Reduce.f k2 (t371.extract ((ji15) : Int).toNat ((wrap64 ((ji15) + 24)) : Int).toNat) a2).bind fun t373 => (if x10_2.length < 17592186044416 then (spec_HashToField.l0 k2 a2 a3 (x10_2 ++ [t373]) t371 true (wrap64 (x13_2 + 1))) else (none))) else (none)) else (none)) else (none)) = some (r1, r2) := by first | (rw [hji15] at H; exact H) | (simp only [hji15] at H ⊢; exact H)
                have hji15w : (IntKind.i64.wrap (24 * x13_2)) = ji15 := (i64_w _).trans hji15
                by_cases c16 : 0 ≤ (ji15)
                · rw [if_pos c16] at H
                  have c16b0 := eq_true c16
                  have c16b1 : decide (0 ≤ (ji15)) = true := decide_eq_true c16
                  clear c16
                  by_cases c17 : (ji15) ≤ (wrap64 ((ji15) + 24))
                  · rw [if_pos c17] at H
                    have c17b0 := eq_true c17
                    have c17b1 : decide ((ji15) ≤ (wrap64 ((ji15) + 24))) = true := decide_eq_true c17
                    by_cases c18 : (wrap64 ((ji15) + 24)) ≤ (t371.size : Int)
                    · rw [if_pos c18] at H
                      have c18b0 := eq_true c18
                      have c18b1 : decide ((wrap64 ((ji15) + 24)) ≤ (t371.size : Int)) = true := decide_eq_true c18
                      replace H := Option.bind_eq_some_iff.mp H
                      obtain ⟨t373, A190, H⟩ := H
                      replace H : (if x10_2.length < 17592186044416 then (spec_HashToField.l0 k2 a2 a3 (x10_2 ++ [t373]) t371 true (wrap64 (x13_2 + 1))) else (none)) = some (r1, r2) := H
                      have A19 := Aside0.mk A190
                      clear A190
                      by_cases c20 : x10_2.length < 17592186044416
                      · rw [if_pos c20] at H
                        have LMc20 := Aside0.mk c20
                        clear c20
                        obtain ⟨y374, hy374⟩ : ∃ y_ : List Int, y_ = (x10_2 ++ [t373]) := ⟨_, rfl⟩
                        replace H : (spec_HashToField.l0 k2 a2 a3 y374 t371 true (wrap64 (x13_2 + 1))) = some (r1, r2) := by first | (rw [hy374]; with_reducible exact H) | (have H2_ := (Option.bind_some _ _).symm.trans H; rw [hy374]; with_reducible exact H2_) | (have H2_ := (Option.bind_some _ _).symm.trans H; with_reducible exact H2_) | with_reducible exact H | (rw [hy374]; exact H) | exact H
                        have Ny374 := Aside0.mk hy374
                        clear hy374
                        have H' := Aside0.mk H
                        clear H
                        go_wp2_with (first | ((with_reducible refine gate_callee (f := 133) rfl ?_); refine goesL_ (some 51) rfl rfl Tryd.func133 (by kernel_rfl) rfl #[.string (t371.extract ((ji15) : Int).toNat ((wrap64 ((ji15) + 24)) : Int).toNat), .int .u64 a2] rfl (by (try simp only [List.map_toArray, List.map_cons, List.map_nil]); first | done | (simp only [hji15]; rfl) | rfl | (simp only [List.length_drop, List.length_take]; rfl)) ?_; (with_reducible refine (spec_Reduce.calls k2 (t371.extract ((ji15) : Int).toNat ((wrap64 ((ji15) + 24)) : Int).toNat) a2 t373 _ A19.out).mono ?_); rintro e w' ⟨rfl, ⟨nd, rfl⟩⟩; refine ⟨_, rfl, ?_⟩) | ((with_reducible refine gate_builtin (b := .append) (xs := #[.tmp 42, .tmp 52]) rfl ?_); at_builtin; refine Kd.R_append (Kd.int .u64) (w0 := w) w.heap.size rfl (.tmp 42) (.tmp 52) 79 23 (.int .u64 0) 8 rfl Tryd.underlying79 info23 rfl (by decide) (by omega) u10 x10_2 t373 [.int .u64 t373] (fun _ => True) (fun _ => False) rfl rfl ?aP (fun _ hk => hk.elim) ?aF ?aO ?aB ?aS ?aL ?_; (case aP => exact rfl); (case aB => exact (by repeat (first | (with_reducible first | exact HB.out | apply below_alloc | apply pw_below_drewN | apply below_drew1) | exact HB.out))); (case aF => exact (fun _ _ => trivial)); (case aO => exact (by (with_reducible repeat (first | apply Kd.R_alloc | apply Kd.R_drewN | apply Kd.R_drew)); exact HO_10.out)); (case aS => exact (below_size (by repeat (first | (with_reducible first | exact HB.out | apply below_alloc | apply pw_below_drewN | apply below_drew1) | exact HB.out)))); (case aL => have := LMc20.out; omega); intro v375 w21 ho hb hg hat; rw [← Ny374.out] at ho; have n0_ := Aside0.mk (hb); have n1_ := Aside0.mk (ho); clear HB; clear HO_10; have HB := n0_; have HO376 := n1_; clear n0_ n1_; clear ho hb hg hat))
                        go_roundg k2
                        case measure => have := HJ4.out; have := HK2.out; omega
                        case rel => exact ⟨(y374), (wrap64 (x13_2 + 1)), (by first | rfl | (simp; done) | (simp [*]; done)), H', ⟨by have := HJ4.out; have := HK2.out; omega⟩, ⟨by (with_reducible repeat (first | apply Kd.R_alloc | apply Kd.R_drewN | apply Kd.R_drew)); exact HO376.out⟩, ⟨by repeat (first | (with_reducible first | exact HB.out | apply below_alloc | apply pw_below_drewN | apply below_drew1) | exact HB.out)⟩⟩
                      · rw [if_neg c20] at H
                        exact absurd H (by simp)
                    · rw [if_neg c18] at H
                      exact absurd H (by simp)
                  · rw [if_neg c17] at H
                    exact absurd H (by simp)
                · rw [if_neg c16] at H
                  exact absurd H (by simp)
              · replace c14 := Bool.eq_false_iff.mpr c14
                subst c14
                have H1 : (some (x10_2, false)) = some (r1, r2) := by rw [if_neg (show ¬ (false = true) by decide)] at H; exact H
                clear H
                have H := H1
                clear H1
                simp only [Option.some.injEq, Prod.mk.injEq] at H
                obtain ⟨rfl, rfl⟩ := H
                go_wp2
                go_ret2
                exact ⟨_, by first | rfl | (simp [errW_none, errW_some] <;> rfl) | (simp [*, errW_none, errW_some] <;> rfl), by (with_reducible repeat (first | apply Kd.R_alloc | apply Kd.R_drewN | apply Kd.R_drew)); exact HO_10.out, by repeat (first | (with_reducible first | exact HB.out | apply below_alloc | apply pw_below_drewN | apply below_drew1) | exact HB.out)⟩
            · rw [if_neg c13] at H
              have c13b0 : decide (x13_2 < a3) = false := decide_eq_false c13
              clear c13
              simp only [Option.some.injEq, Prod.mk.injEq] at H
              obtain ⟨rfl, rfl⟩ := H
              go_wp2
              go_ret2
              exact ⟨_, by first | rfl | (simp [errW_none, errW_some] <;> rfl) | (simp [*, errW_none, errW_some] <;> rfl), by (with_reducible repeat (first | apply Kd.R_alloc | apply Kd.R_drewN | apply Kd.R_drew)); exact HO_10.out, by repeat (first | (with_reducible first | exact HB.out | apply below_alloc | apply pw_below_drewN | apply below_drew1) | exact HB.out)⟩

end Go.Proofs.YtoejhekppfgmpaaDoor.C
end
section
namespace Go.Proofs.YtoejhekppfgmpaaDoor.C
open Go.RowKit Go.Proofs.YtoejhekppfgmpaaDoor.B Go.Proofs.YtoejhekppfgmpaaDoor.H0 Go.Proofs.YtoejhekppfgmpaaDoor.F0 Go.Proofs.YtoejhekppfgmpaaDoor.KG2 Go.Proofs.YtoejhekppfgmpaaDoorW.PrintWords Go.Proofs.YtoejhekppfgmpaaDoorW.PrintLast Go.Proofs.YtoejhekppfgmpaaDoorW.PrintMore
attribute [local go_sem high] field_num_fieldP   -- for this text's walks alone
attribute [local go_sem] max2_int min2_int max_two min_two max_three min_three max_four min_four   -- for this text's walks alone
set_option linter.unusedVariables false
set_option linter.unusedSimpArgs false
def spec_HashToGroup.f (k : Nat) (a0 : ByteArray) (a1 : ByteArray) : Option (Int × Int × Bool × Bool) := (spec_HashToField.f k a0 a1 2305843009213693951 2).bind fun bt378 => (if bt378.2 = true then (if 0 < (bt378.1.length : Int) then ((spec_MapToCurve.f k (rd bt378.1 0)).bind fun bt383 => (if 1 < (bt378.1.length : Int) then ((spec_MapToCurve.f k (rd bt378.1 1)).bind fun bt387 => ((spec_l3Sum.f k bt383.1 bt383.2.1 bt383.2.2 bt387.1 bt387.2.1 bt387.2.2).bind fun bt390 => (some (bt390.1, bt390.2.1, bt390.2.2, true)))) else (none))) else (none)) else ((spec_l3Zero.f).bind fun bt393 => (some (bt393.1, bt393.2.1, bt393.2.2, false))))
def spec_HashToGroup.T4 : Bool × List (List Nat × List Nat) := (true, [([], []), ([0], [0]), ([1], [1]), ([2], [2]), ([], []), ([4], [4]), ([5], [5]), ([6, 3], [6]), ([3, 7, 7], [3, 7]), ([8, 8, 0, 1, 2, 3, 4, 5, 6, 7, 8], [8]), ([9, 0, 1, 2, 3, 4, 5, 6, 7, 8, 9], [])])
def spec_HashToGroup.B4 : List Nat := [0, 1, 3, 7, 0, 16, 48, 127, 255, 511, 1023]
theorem spec_HashToGroup.tab4 : rtab .any (opsOf Tryd.f33 4) = spec_HashToGroup.T4 := by kernel_rfl
theorem spec_HashToGroup.bits4 : waitsOk spec_HashToGroup.T4.2 spec_HashToGroup.B4 = true := by kernel_rfl
set_option maxHeartbeats 8000000 in
set_option maxRecDepth 100000 in
theorem spec_HashToGroup.calls (k : Nat) (a0 : ByteArray) (a1 : ByteArray) (r1 : Int) (r2 : Int) (r3 : Bool) (r4 : Bool) (w : World) (h : spec_HashToGroup.f k a0 a1 = some (r1, r2, r3, r4)) :
    Calls Tryd.prog 33 #[.string a0, .string a1] w fun e w' => e = .returned (.tuple #[.agg #[.int .u64 r1, .int .u64 r2, .bool r3], .bool r4]) ∧ Below w.heap.size w w' := by
  have hu25 := Tryd.underlying25
  have HB := Aside0.mk (Below.refl w.heap.size w)
  have H : ((spec_HashToField.f k a0 a1 2305843009213693951 2).bind fun bt378 => (if bt378.2 = true then (if 0 < (bt378.1.length : Int) then ((spec_MapToCurve.f k (rd bt378.1 0)).bind fun bt383 => (if 1 < (bt378.1.length : Int) then ((spec_MapToCurve.f k (rd bt378.1 1)).bind fun bt387 => ((spec_l3Sum.f k bt383.1 bt383.2.1 bt383.2.2 bt387.1 bt387.2.1 bt387.2.2).bind fun bt390 => (some (bt390.1, bt390.2.1, bt390.2.2, true)))) else (none))) else (none)) else ((spec_l3Zero.f).bind fun bt393 => (some (bt393.1, bt393.2.1, bt393.2.2, false))))) = some (r1, r2, r3, r4) := h
  clear h
  replace H := Option.bind_eq_some_iff.mp H
  obtain ⟨⟨t378, t379⟩, A30, H⟩ := H
  replace H : (if t379 = true then (if 0 < (t378.length : Int) then ((spec_MapToCurve.f k (rd t378 0)).bind fun bt383 => (if 1 < (t378.length : Int) then ((spec_MapToCurve.f k (rd t378 1)).bind fun bt387 => ((spec_l3Sum.f k bt383.1 bt383.2.1 bt383.2.2 bt387.1 bt387.2.1 bt387.2.2).bind fun bt390 => (some (bt390.1, bt390.2.1, bt390.2.2, true)))) else (none))) else (none)) else ((spec_l3Zero.f).bind fun bt393 => (some (bt393.1, bt393.2.1, bt393.2.2, false)))) = some (r1, r2, r3, r4) := H
  have A3 := Aside0.mk A30
  clear A30
  by_cases c4 : t379 = true
  · subst c4
    have H1 : (if 0 < (t378.length : Int) then ((spec_MapToCurve.f k (rd t378 0)).bind fun bt383 => (if 1 < (t378.length : Int) then ((spec_MapToCurve.f k (rd t378 1)).bind fun bt387 => ((spec_l3Sum.f k bt383.1 bt383.2.1 bt383.2.2 bt387.1 bt387.2.1 bt387.2.2).bind fun bt390 => (some (bt390.1, bt390.2.1, bt390.2.2, true)))) else (none))) else (none)) = some (r1, r2, r3, r4) := by rw [if_pos rfl] at H; exact H
    clear H
    have H := H1
    clear H1
    by_cases c5 : 0 < (t378.length : Int)
    · rw [if_pos c5] at H
      have c5b0 : decide (0 < (t378.length : Int)) = true := decide_eq_true c5
      have c5b1 : decide (0 < t378.length) = true := decide_eq_true (by omega)
      clear c5
      replace H := Option.bind_eq_some_iff.mp H
      obtain ⟨⟨t383, t384, t385⟩, A60, H⟩ := H
      replace H : (if 1 < (t378.length : Int) then ((spec_MapToCurve.f k (rd t378 1)).bind fun bt387 => ((spec_l3Sum.f k t383 t384 t385 bt387.1 bt387.2.1 bt387.2.2).bind fun bt390 => (some (bt390.1, bt390.2.1, bt390.2.2, true)))) else (none)) = some (r1, r2, r3, r4) := H
      have A6 := Aside0.mk A60
      clear A60
      by_cases c7 : 1 < (t378.length : Int)
      · rw [if_pos c7] at H
        have c7b0 : decide (1 < (t378.length : Int)) = true := decide_eq_true c7
        have c7b1 : decide (1 < t378.length) = true := decide_eq_true (by omega)
        clear c7
        replace H := Option.bind_eq_some_iff.mp H
        obtain ⟨⟨t387, t388, t389⟩, A80, H⟩ := H
        replace H : ((spec_l3Sum.f k t383 t384 t385 t387 t388 t389).bind fun bt390 => (some (bt390.1, bt390.2.1, bt390.2.2, true))) = some (r1, r2, r3, r4) := H
        have A8 := Aside0.mk A80
        clear A80
        replace H := Option.bind_eq_some_iff.mp H
        obtain ⟨⟨t390, t391, t392⟩, A90, H⟩ := H
        replace H : (some (t390, t391, t392, true)) = some (r1, r2, r3, r4) := H
        have A9 := Aside0.mk A90
        clear A90
        simp only [Option.some.injEq, Prod.mk.injEq] at H
        obtain ⟨rfl, rfl, rfl, rfl⟩ := H
        go_enter Tryd.func33, Tryd.ntmps33
        try go_wp2_with (first | ((with_reducible refine gate_dst (N := 4) rfl ?_); refine box_event ?hg (N := 4) ?hd (cs := #[.int .u64 0, .int .u64 0, .bool false]) (t := 25) ?hr ?_; (case hd => rfl); (case hg => rfl); (case hr => first | (go_simp; done) | (go_simp; rfl)); intro gb377 hg w10 hbox hb; have n0_ := Aside0.mk (below_step (by repeat (first | (with_reducible first | exact HB.out | apply below_alloc | apply pw_below_drewN | apply below_drew1) | exact HB.out)) hb); have n1_ := Aside0.mk (hbox); have n2_ := Aside0.mk ((by rw [hg]; exact (below_size (by repeat (first | (with_reducible first | exact HB.out | apply below_alloc | apply pw_below_drewN | apply below_drew1) | exact HB.out))) : w.heap.size ≤ gb377)); have n3_ := Aside0.mk ((by rw [hg]; exact (below_size (by repeat (first | (with_reducible first | exact HB.out | apply below_alloc | apply pw_below_drewN | apply below_drew1) | exact HB.out))) : w.heap.size ≤ gb377)); clear HB; have HB := n0_; have BK377 := n1_; have GW377 := n2_; have GE377 := n3_; clear n0_ n1_ n2_ n3_; clear hb hbox hg) | ((with_reducible refine gate_callee (f := 81) rfl ?_); refine goesL_ (some 11) rfl rfl Tryd.func81 (by kernel_rfl) rfl #[.string a0, .string a1, .int .u64 2305843009213693951, .int .i64 2] rfl (by (try simp only [List.map_toArray, List.map_cons, List.map_nil]); first | done | rfl | (simp only [List.length_drop, List.length_take]; rfl)) ?_; (with_reducible refine (spec_HashToField.calls k a0 a1 2305843009213693951 2 t378 true _ A3.out).mono ?_); rintro e w11 ⟨v380, rfl, ho0, hb⟩; refine ⟨_, rfl, ?_⟩; have n0_ := Aside0.mk (Kd.R_lower ho0 (below_size (by repeat (first | (with_reducible first | exact HB.out | apply below_alloc | apply pw_below_drewN | apply below_drew1 | refine below_set ?_ GE377.out) | exact HB.out)))); have n1_ := Aside0.mk (blk_below (g := gb377) (o := .cells #[.int .u64 0, .int .u64 0, .bool false] 25 (0, 0)) (by (with_reducible repeat (first | refine blk_drewN ?_ _ | refine blk_drew ?_ | refine blk_alloc ?_ _)); exact BK377.out) hb); have n2_ := Aside0.mk (below_step (by repeat (first | (with_reducible first | exact HB.out | apply below_alloc | apply pw_below_drewN | apply below_drew1 | refine below_set ?_ GE377.out) | exact HB.out)) hb); clear BK377; clear HB; have HO381 := n0_; have BK377 := n1_; have HB := n2_; clear n0_ n1_ n2_; (try clear hb); (try clear hb2); (try clear hk); (try clear hi); (try clear ho0)))
        have n0_ := Aside0.mk (Kd.R_drew HO381.out)
        have n1_ := Aside0.mk (blk_drew BK377.out)
        have n2_ := Aside0.mk (below_drew1 HB.out)
        clear HO381
        clear BK377
        clear HB
        have HO381 := n0_
        have BK377 := n1_
        have HB := n2_
        clear n0_ n1_ n2_
        obtain ⟨Ao13, co13, eo13⟩ := Kd.R_slice HO381.out
        (first | subst eo13 | (injection eo13 with f1_ f2_ f3_; have f4_ := f1_.symm; have f5_ := f3_.symm; clear f1_ f2_ f3_; subst f4_; subst f5_))
        have p382 : 0 ≤ (0 : Int) := (by omega)
        have q382 : 0 < (t378.length : Int) := of_decide_eq_true (by first | (with_reducible assumption) | assumption)
        obtain ⟨ad382, e382, hx382_0⟩ := Kd.at_int (Kd.R_reads' HO381.out).2.2 0 p382 q382
        cases e382
        have qi382 : (0 < t378.length) = True := eq_true (by omega)
        (try rw [show ((0 : Int)).toNat = 0 from rfl] at hx382_0)
        (try rw [Addr.add_zero'] at hx382_0)
        replace p382 := eq_true p382
        replace q382 := eq_true q382
        have p386 : 0 ≤ (1 : Int) := (by omega)
        have q386 : 1 < (t378.length : Int) := of_decide_eq_true (by first | (with_reducible assumption) | assumption)
        obtain ⟨ad386, e386, hx386_0⟩ := Kd.at_int (Kd.R_reads' HO381.out).2.2 1 p386 q386
        obtain rfl : ad382 = ad386 := (by injection e386)
        (try simp only [show (1 : Int).toNat = 1 from rfl, Nat.reduceMul, Nat.reduceEqDiff, Go.Addr.add, ↓reduceIte] at hx386_0)
        have qi386 : (1 < t378.length) = True := eq_true (by omega)
        (try rw [show ((1 : Int)).toNat = 1 from rfl] at hx386_0)
        replace p386 := eq_true p386
        replace q386 := eq_true q386
        refine start_ (n := 11) (S := fun w' => w'.cell? ad382 = some (.int .u64 (rd t378 0)) ∧ w'.cell? ⟨ad382.block, ad382.off + 1, none⟩ = some (.int .u64 (rd t378 1))) (ds := []) #[false, false, false, false, false, false, false, false, false, false, false] (by kernel_rfl) rfl rfl ⟨hx382_0, hx386_0⟩ (fun hHeld => ?_); refine with_tabW spec_HashToGroup.tab4 spec_HashToGroup.bits4 (fun HT_ HW_ => ?_)
        generalize w11.drew = w12 at HO381 BK377 HB hx382_0 hx386_0 hHeld ⊢
        refine pure_ (i := 0) (N := some 17) (v := ?_) (a' := ?_) #[true, false, false, false, false, false, false, false, false, false, false] rfl rfl (any_of HT_.out (by kernel_rfl)) (fun _ _ _ h => h) (Or.inl ⟨by rfl, ?_⟩) ?_ ?_
        rotate_left
        · intro w'
          go_simp
          with_reducible rfl
        rotate_left
        · simp only [Act.put, List.setIfInBounds_toArray, List.set_cons_zero, List.set_cons_succ, i64_w, i32_w]
          rfl
        refine pure_ (i := 1) (N := some 18) (v := ?_) (a' := ?_) #[true, true, false, false, false, false, false, false, false, false, false] rfl rfl (any_of HT_.out (by kernel_rfl)) (fun _ _ _ h => h) (Or.inl ⟨by rfl, ?_⟩) ?_ ?_
        rotate_left
        · intro w'
          go_simp
          with_reducible rfl
        rotate_left
        · simp only [Act.put, List.setIfInBounds_toArray, List.set_cons_zero, List.set_cons_succ, i64_w, i32_w]
          rfl
        refine pure_ (i := 4) (N := some 21) (v := ?_) (a' := ?_) #[true, true, false, false, true, false, false, false, false, false, false] rfl rfl (any_of HT_.out (by kernel_rfl)) (fun _ _ _ h => h) (Or.inl ⟨by rfl, ?_⟩) ?_ ?_
        rotate_left
        · intro w'
          go_simp
          with_reducible rfl
        rotate_left
        · simp only [Act.put, List.setIfInBounds_toArray, List.set_cons_zero, List.set_cons_succ, i64_w, i32_w]
          rfl
        refine pure_ (i := 5) (N := some 22) (v := ?_) (a' := ?_) #[true, true, false, false, true, true, false, false, false, false, false] rfl rfl (any_of HT_.out (by kernel_rfl)) (fun _ _ _ h => h) (Or.inl ⟨by rfl, ?_⟩) ?_ ?_
        rotate_left
        · intro w'
          go_simp
          with_reducible rfl
        rotate_left
        · simp only [Act.put, List.setIfInBounds_toArray, List.set_cons_zero, List.set_cons_succ, i64_w, i32_w]
          rfl
        refine take_ (i := 2) (N := some 19) (v := ?_) (a' := ?_) #[true, true, true, false, true, true, false, false, false, false, false] rfl rfl (take_ofW HT_.out HW_.out (by kernel_rfl)) (fun _ _ _ h => h) (Or.inl ⟨by rfl, ?_⟩) hHeld ?_ ?_
        rotate_left
        · rintro w' ⟨s0, s1⟩
          go_simp
          with_reducible rfl
        rotate_left
        · simp only [Act.put, List.setIfInBounds_toArray, List.set_cons_zero, List.set_cons_succ, i64_w, i32_w]
          rfl
        refine take_ (i := 6) (N := some 23) (v := ?_) (a' := ?_) #[true, true, true, false, true, true, true, false, false, false, false] rfl rfl (take_ofW HT_.out HW_.out (by kernel_rfl)) (fun _ _ _ h => h) (Or.inl ⟨by rfl, ?_⟩) hHeld ?_ ?_
        rotate_left
        · rintro w' ⟨s0, s1⟩
          go_simp
          with_reducible rfl
        rotate_left
        · simp only [Act.put, List.setIfInBounds_toArray, List.set_cons_zero, List.set_cons_succ, i64_w, i32_w]
          rfl
        refine one_ (i := 3) (N := some 20) #[true, true, true, true, true, true, true, false, false, false, false] rfl rfl (one_of HT_.out (by kernel_rfl)) (by decide) (fun K hK => ?_)
        refine goes_ Tryd.func48 (by kernel_rfl) rfl #[.int .u64 (rd t378 0)] (by rfl) rfl rfl (by (try simp only [List.map_toArray, List.map_cons, List.map_nil]); first | done | rfl | (simp only [List.length_drop, List.length_take]; rfl)) ?_
        with_reducible refine (spec_MapToCurve.calls k (rd t378 0) t383 t384 t385 _ A6.out).mono ?_
        rintro e w14 ⟨rfl, hb⟩
        have HS0_ := (hb.cell (World.block_lt_of_cell? _ _ (hHeld.1))).trans (hHeld.1)
        have HS1_ := (hb.cell (World.block_lt_of_cell? _ _ (hHeld.2))).trans (hHeld.2)
        refine ⟨_, rfl, ?_⟩
        have n0_ := Aside0.mk (Kd.R_below (by (with_reducible repeat (first | apply Kd.R_alloc | apply Kd.R_drewN | apply Kd.R_drew)); exact HO381.out) hb)
        have n1_ := Aside0.mk (blk_below (g := gb377) (o := .cells #[.int .u64 0, .int .u64 0, .bool false] 25 (0, 0)) (by (with_reducible repeat (first | refine blk_drewN ?_ _ | refine blk_drew ?_ | refine blk_alloc ?_ _)); exact BK377.out) hb)
        have n2_ := Aside0.mk (below_step (by repeat (first | (with_reducible first | exact HB.out | apply below_alloc | apply pw_below_drewN | apply below_drew1 | refine below_set ?_ GE377.out) | exact HB.out)) hb)
        clear HO381
        clear BK377
        clear HB
        have HO381 := n0_
        have BK377 := n1_
        have HB := n2_
        clear n0_ n1_ n2_
        (try clear hb)
        (try clear hb2)
        (try clear hk)
        (try clear hi)
        refine hK.out _ _ ⟨HS0_, HS1_⟩ (fun hHeld => ?_)
        clear hK K
        refine norm_ (a' := ?_) ?_ ?_
        rotate_left
        · show Act.put _ (some 20) _ = _
          simp only [Act.put, List.setIfInBounds_toArray, List.set_cons_zero, List.set_cons_succ, i64_w, i32_w]
          rfl
        refine one_ (i := 7) (N := some 24) #[true, true, true, true, true, true, true, true, false, false, false] rfl rfl (one_of HT_.out (by kernel_rfl)) (by decide) (fun K hK => ?_)
        refine goes_ Tryd.func48 (by kernel_rfl) rfl #[.int .u64 (rd t378 1)] (by rfl) rfl rfl (by (try simp only [List.map_toArray, List.map_cons, List.map_nil]); first | done | rfl | (simp only [List.length_drop, List.length_take]; rfl)) ?_
        with_reducible refine (spec_MapToCurve.calls k (rd t378 1) t387 t388 t389 _ A8.out).mono ?_
        rintro e w15 ⟨rfl, hb⟩
        have HS0_ := (hb.cell (World.block_lt_of_cell? _ _ (hHeld.1))).trans (hHeld.1)
        have HS1_ := (hb.cell (World.block_lt_of_cell? _ _ (hHeld.2))).trans (hHeld.2)
        refine ⟨_, rfl, ?_⟩
        have n0_ := Aside0.mk (Kd.R_below (by (with_reducible repeat (first | apply Kd.R_alloc | apply Kd.R_drewN | apply Kd.R_drew)); exact HO381.out) hb)
        have n1_ := Aside0.mk (blk_below (g := gb377) (o := .cells #[.int .u64 0, .int .u64 0, .bool false] 25 (0, 0)) (by (with_reducible repeat (first | refine blk_drewN ?_ _ | refine blk_drew ?_ | refine blk_alloc ?_ _)); exact BK377.out) hb)
        have n2_ := Aside0.mk (below_step (by repeat (first | (with_reducible first | exact HB.out | apply below_alloc | apply pw_below_drewN | apply below_drew1 | refine below_set ?_ GE377.out) | exact HB.out)) hb)
        clear HO381
        clear BK377
        clear HB
        have HO381 := n0_
        have BK377 := n1_
        have HB := n2_
        clear n0_ n1_ n2_
        (try clear hb)
        (try clear hb2)
        (try clear hk)
        (try clear hi)
        refine hK.out _ _ ⟨HS0_, HS1_⟩ (fun hHeld => ?_)
        clear hK K
        refine norm_ (a' := ?_) ?_ ?_
        rotate_left
        · show Act.put _ (some 24) _ = _
          simp only [Act.put, List.setIfInBounds_toArray, List.set_cons_zero, List.set_cons_succ, i64_w, i32_w]
          rfl
        refine one_ (i := 8) (N := some 25) #[true, true, true, true, true, true, true, true, true, false, false] rfl rfl (one_of HT_.out (by kernel_rfl)) (by decide) (fun K hK => ?_)
        refine goes_ Tryd.func62 (by kernel_rfl) rfl #[.agg #[.int .u64 t383, .int .u64 t384, .bool t385], .agg #[.int .u64 t387, .int .u64 t388, .bool t389]] (by rfl) rfl rfl (by (try simp only [List.map_toArray, List.map_cons, List.map_nil]); first | done | rfl | (simp only [List.length_drop, List.length_take]; rfl)) ?_
        with_reducible refine (spec_l3Sum.calls k t383 t384 t385 t387 t388 t389 t390 t391 t392 _ A9.out).mono ?_
        rintro e w16 ⟨rfl, hb⟩
        have HS0_ := (hb.cell (World.block_lt_of_cell? _ _ (hHeld.1))).trans (hHeld.1)
        have HS1_ := (hb.cell (World.block_lt_of_cell? _ _ (hHeld.2))).trans (hHeld.2)
        refine ⟨_, rfl, ?_⟩
        have n0_ := Aside0.mk (Kd.R_below (by (with_reducible repeat (first | apply Kd.R_alloc | apply Kd.R_drewN | apply Kd.R_drew)); exact HO381.out) hb)
        have n1_ := Aside0.mk (blk_below (g := gb377) (o := .cells #[.int .u64 0, .int .u64 0, .bool false] 25 (0, 0)) (by (with_reducible repeat (first | refine blk_drewN ?_ _ | refine blk_drew ?_ | refine blk_alloc ?_ _)); exact BK377.out) hb)
        have n2_ := Aside0.mk (below_step (by repeat (first | (with_reducible first | exact HB.out | apply below_alloc | apply pw_below_drewN | apply below_drew1 | refine below_set ?_ GE377.out) | exact HB.out)) hb)
        clear HO381
        clear BK377
        clear HB
        have HO381 := n0_
        have BK377 := n1_
        have HB := n2_
        clear n0_ n1_ n2_
        (try clear hb)
        (try clear hb2)
        (try clear hk)
        (try clear hi)
        refine hK.out _ _ ⟨HS0_, HS1_⟩ (fun hHeld => ?_)
        clear hK K
        refine norm_ (a' := ?_) ?_ ?_
        rotate_left
        · show Act.put _ (some 25) _ = _
          simp only [Act.put, List.setIfInBounds_toArray, List.set_cons_zero, List.set_cons_succ, i64_w, i32_w]
          rfl
        refine one_ (i := 9) (N := none) #[true, true, true, true, true, true, true, true, true, true, false] rfl rfl (one_of HT_.out (by kernel_rfl)) (by decide) (fun K hK => ?_)
        have hs17 : w16.cell? ⟨gb377, 0, none⟩ = some (.int .u64 0) := (blk_cell BK377.out 0).trans rfl
        have hfs17 := blk_frozen BK377.out 0
        have hs18 : w16.cell? ⟨gb377, 1, none⟩ = some (.int .u64 0) := (blk_cell BK377.out 1).trans rfl
        have hfs18 := blk_frozen BK377.out 1
        have hs19 : w16.cell? ⟨gb377, 2, none⟩ = some (.bool false) := (blk_cell BK377.out 2).trans rfl
        have hfs19 := blk_frozen BK377.out 2
        refine skip_ (w1 := ?_) (by rfl) rfl ?_ ?_
        rotate_left
        · go_simp
          rfl
        refine hK.out _ _ ⟨((cell_far (p := ⟨gb377, _, none⟩) (by first | exact Kd.own_blk (Kd.R_ne HO381.out BK377.out (by decide)) | (rw [add_block]; exact Kd.own_blk (Kd.R_ne HO381.out BK377.out (by decide))) | (show (Addr.add _ _).block ≠ _; rw [add_block]; exact Kd.own_blk (Kd.R_ne HO381.out BK377.out (by decide))) | (dsimp only; exact Kd.own_blk (Kd.R_ne HO381.out BK377.out (by decide)))) _).trans (((cell_far (p := ⟨gb377, _, none⟩) (by first | exact Kd.own_blk (Kd.R_ne HO381.out BK377.out (by decide)) | (rw [add_block]; exact Kd.own_blk (Kd.R_ne HO381.out BK377.out (by decide))) | (show (Addr.add _ _).block ≠ _; rw [add_block]; exact Kd.own_blk (Kd.R_ne HO381.out BK377.out (by decide))) | (dsimp only; exact Kd.own_blk (Kd.R_ne HO381.out BK377.out (by decide)))) _).trans (((cell_far (p := ⟨gb377, _, none⟩) (by first | exact Kd.own_blk (Kd.R_ne HO381.out BK377.out (by decide)) | (rw [add_block]; exact Kd.own_blk (Kd.R_ne HO381.out BK377.out (by decide))) | (show (Addr.add _ _).block ≠ _; rw [add_block]; exact Kd.own_blk (Kd.R_ne HO381.out BK377.out (by decide))) | (dsimp only; exact Kd.own_blk (Kd.R_ne HO381.out BK377.out (by decide)))) _).trans (hHeld.1)))))), ((cell_far (p := ⟨gb377, _, none⟩) (by first | exact Kd.own_blk (Kd.R_ne HO381.out BK377.out (by decide)) | (rw [add_block]; exact Kd.own_blk (Kd.R_ne HO381.out BK377.out (by decide))) | (show (Addr.add _ _).block ≠ _; rw [add_block]; exact Kd.own_blk (Kd.R_ne HO381.out BK377.out (by decide))) | (dsimp only; exact Kd.own_blk (Kd.R_ne HO381.out BK377.out (by decide)))) _).trans (((cell_far (p := ⟨gb377, _, none⟩) (by first | exact Kd.own_blk (Kd.R_ne HO381.out BK377.out (by decide)) | (rw [add_block]; exact Kd.own_blk (Kd.R_ne HO381.out BK377.out (by decide))) | (show (Addr.add _ _).block ≠ _; rw [add_block]; exact Kd.own_blk (Kd.R_ne HO381.out BK377.out (by decide))) | (dsimp only; exact Kd.own_blk (Kd.R_ne HO381.out BK377.out (by decide)))) _).trans (((cell_far (p := ⟨gb377, _, none⟩) (by first | exact Kd.own_blk (Kd.R_ne HO381.out BK377.out (by decide)) | (rw [add_block]; exact Kd.own_blk (Kd.R_ne HO381.out BK377.out (by decide))) | (show (Addr.add _ _).block ≠ _; rw [add_block]; exact Kd.own_blk (Kd.R_ne HO381.out BK377.out (by decide))) | (dsimp only; exact Kd.own_blk (Kd.R_ne HO381.out BK377.out (by decide)))) _).trans (hHeld.2))))))⟩ (fun hHeld => ?_)
        clear hK K
        refine pure_ (i := 10) (N := some 5) (v := ?_) (a' := ?_) #[true, true, true, true, true, true, true, true, true, true, true] rfl rfl (any_of HT_.out (by kernel_rfl)) (fun _ _ _ h => h) (Or.inl ⟨by rfl, ?_⟩) ?_ ?_
        rotate_left
        · intro w'
          go_simp
          with_reducible rfl
        rotate_left
        · simp only [Act.put, List.setIfInBounds_toArray, List.set_cons_zero, List.set_cons_succ, i64_w, i32_w]
          rfl
        refine done_ (done_of HT_.out (by kernel_rfl)) ?_
        try go_wp2
        refine bodyPost_ret (results_ct rfl _ _ gb377 25 #[.int .u64 t390, .int .u64 t391, .bool t392] (0, 0) _ rfl (by (with_reducible repeat (first | refine blk_drewN ?_ _ | refine blk_drew ?_ | refine blk_alloc ?_ _)); refine blk_put (cs := #[.int .u64 t390, .int .u64 t391, .bool false]) ?_ 2 _ rfl; (with_reducible repeat (first | refine blk_drewN ?_ _ | refine blk_drew ?_ | refine blk_alloc ?_ _)); refine blk_put (cs := #[.int .u64 t390, .int .u64 0, .bool false]) ?_ 1 _ rfl; (with_reducible repeat (first | refine blk_drewN ?_ _ | refine blk_drew ?_ | refine blk_alloc ?_ _)); refine blk_put (cs := #[.int .u64 0, .int .u64 0, .bool false]) ?_ 0 _ rfl; (with_reducible repeat (first | refine blk_drewN ?_ _ | refine blk_drew ?_ | refine blk_alloc ?_ _)); exact BK377.out) Tryd.underlying25 rfl (by kernel_rfl)) rfl ?_
        exact ⟨by first | rfl | (simp [errW_none, errW_some] <;> rfl) | (simp [*, errW_none, errW_some] <;> rfl), by repeat (first | (with_reducible first | exact HB.out | apply below_alloc | apply pw_below_drewN | apply below_drew1 | refine below_set ?_ GE377.out) | exact HB.out)⟩
      · rw [if_neg c7] at H
        exact absurd H (by simp)
    · rw [if_neg c5] at H
      exact absurd H (by simp)
  · replace c4 := Bool.eq_false_iff.mpr c4
    subst c4
    have H1 : ((spec_l3Zero.f).bind fun bt393 => (some (bt393.1, bt393.2.1, bt393.2.2, false))) = some (r1, r2, r3, r4) := by rw [if_neg (show ¬ (false = true) by decide)] at H; exact H
    clear H
    have H := H1
    clear H1
    replace H := Option.bind_eq_some_iff.mp H
    obtain ⟨⟨t393, t394, t395⟩, A200, H⟩ := H
    replace H : (some (t393, t394, t395, false)) = some (r1, r2, r3, r4) := H
    have A20 := Aside0.mk A200
    clear A200
    simp only [Option.some.injEq, Prod.mk.injEq] at H
    obtain ⟨rfl, rfl, rfl, rfl⟩ := H
    go_enter Tryd.func33, Tryd.ntmps33
    go_wp2_with (first | ((with_reducible refine gate_dst (N := 4) rfl ?_); refine box_event ?hg (N := 4) ?hd (cs := #[.int .u64 0, .int .u64 0, .bool false]) (t := 25) ?hr ?_; (case hd => rfl); (case hg => rfl); (case hr => first | (go_simp; done) | (go_simp; rfl)); intro gb377 hg w21 hbox hb; have n0_ := Aside0.mk (below_step (by repeat (first | (with_reducible first | exact HB.out | apply below_alloc | apply pw_below_drewN | apply below_drew1) | exact HB.out)) hb); have n1_ := Aside0.mk (hbox); have n2_ := Aside0.mk ((by rw [hg]; exact (below_size (by repeat (first | (with_reducible first | exact HB.out | apply below_alloc | apply pw_below_drewN | apply below_drew1) | exact HB.out))) : w.heap.size ≤ gb377)); have n3_ := Aside0.mk ((by rw [hg]; exact (below_size (by repeat (first | (with_reducible first | exact HB.out | apply below_alloc | apply pw_below_drewN | apply below_drew1) | exact HB.out))) : w.heap.size ≤ gb377)); clear HB; have HB := n0_; have BK377 := n1_; have GW377 := n2_; have GE377 := n3_; clear n0_ n1_ n2_ n3_; clear hb hbox hg) | ((with_reducible refine gate_callee (f := 81) rfl ?_); refine goesL_ (some 11) rfl rfl Tryd.func81 (by kernel_rfl) rfl #[.string a0, .string a1, .int .u64 2305843009213693951, .int .i64 2] rfl (by (try simp only [List.map_toArray, List.map_cons, List.map_nil]); first | done | rfl | (simp only [List.length_drop, List.length_take]; rfl)) ?_; (with_reducible refine (spec_HashToField.calls k a0 a1 2305843009213693951 2 t378 false _ A3.out).mono ?_); rintro e w22 ⟨v380, rfl, ho0, hb⟩; refine ⟨_, rfl, ?_⟩; have n0_ := Aside0.mk (Kd.R_lower ho0 (below_size (by repeat (first | (with_reducible first | exact HB.out | apply below_alloc | apply pw_below_drewN | apply below_drew1 | refine below_set ?_ GE377.out) | exact HB.out)))); have n1_ := Aside0.mk (blk_below (g := gb377) (o := .cells #[.int .u64 0, .int .u64 0, .bool false] 25 (0, 0)) (by (with_reducible repeat (first | refine blk_drewN ?_ _ | refine blk_drew ?_ | refine blk_alloc ?_ _)); exact BK377.out) hb); have n2_ := Aside0.mk (below_step (by repeat (first | (with_reducible first | exact HB.out | apply below_alloc | apply pw_below_drewN | apply below_drew1 | refine below_set ?_ GE377.out) | exact HB.out)) hb); clear BK377; clear HB; have HO381 := n0_; have BK377 := n1_; have HB := n2_; clear n0_ n1_ n2_; (try clear hb); (try clear hb2); (try clear hk); (try clear hi); (try clear ho0)) | ((with_reducible refine gate_callee (f := 61) rfl ?_); refine goesL_ (some 16) rfl rfl Tryd.func61 (by kernel_rfl) rfl #[] rfl (by (try simp only [List.map_toArray, List.map_cons, List.map_nil]); first | done | rfl | (simp only [List.length_drop, List.length_take]; rfl)) ?_; (with_reducible refine (spec_l3Zero.calls  t393 t394 t395 _ A20.out).mono ?_); rintro e w23 ⟨rfl, hb⟩; refine ⟨_, rfl, ?_⟩; have n0_ := Aside0.mk (Kd.R_below (by (with_reducible repeat (first | apply Kd.R_alloc | apply Kd.R_drewN | apply Kd.R_drew)); exact HO381.out) hb); have n1_ := Aside0.mk (blk_below (g := gb377) (o := .cells #[.int .u64 0, .int .u64 0, .bool false] 25 (0, 0)) (by (with_reducible repeat (first | refine blk_drewN ?_ _ | refine blk_drew ?_ | refine blk_alloc ?_ _)); exact BK377.out) hb); have n2_ := Aside0.mk (below_step (by repeat (first | (with_reducible first | exact HB.out | apply below_alloc | apply pw_below_drewN | apply below_drew1 | refine below_set ?_ GE377.out) | exact HB.out)) hb); clear HO381; clear BK377; clear HB; have HO381 := n0_; have BK377 := n1_; have HB := n2_; clear n0_ n1_ n2_; (try clear hb); (try clear hb2); (try clear hk); (try clear hi); have hcz24_0 : w23.cell? ⟨gb377, 0, none⟩ = some (.int .u64 0) := (blk_cell BK377.out 0).trans rfl; have hcz24_1 : w23.cell? ⟨gb377, 1, none⟩ = some (.int .u64 0) := (blk_cell BK377.out 1).trans rfl; have hcz24_2 : w23.cell? ⟨gb377, 2, none⟩ = some (.bool false) := (blk_cell BK377.out 2).trans rfl; have hfz24_0 := blk_frozen BK377.out 0; have hfz24_1 := blk_frozen BK377.out 1; have hfz24_2 := blk_frozen BK377.out 2))
    refine bodyPost_ret (results_ct rfl _ _ gb377 25 #[.int .u64 t393, .int .u64 t394, .bool t395] (0, 0) _ rfl (by (with_reducible repeat (first | refine blk_drewN ?_ _ | refine blk_drew ?_ | refine blk_alloc ?_ _)); refine blk_put (cs := #[.int .u64 t393, .int .u64 t394, .bool false]) ?_ 2 _ rfl; (with_reducible repeat (first | refine blk_drewN ?_ _ | refine blk_drew ?_ | refine blk_alloc ?_ _)); refine blk_put (cs := #[.int .u64 t393, .int .u64 0, .bool false]) ?_ 1 _ rfl; (with_reducible repeat (first | refine blk_drewN ?_ _ | refine blk_drew ?_ | refine blk_alloc ?_ _)); refine blk_put (cs := #[.int .u64 0, .int .u64 0, .bool false]) ?_ 0 _ rfl; (with_reducible repeat (first | refine blk_drewN ?_ _ | refine blk_drew ?_ | refine blk_alloc ?_ _)); exact BK377.out) Tryd.underlying25 rfl (by kernel_rfl)) rfl ?_
    exact ⟨by first | rfl | (simp [errW_none, errW_some] <;> rfl) | (simp [*, errW_none, errW_some] <;> rfl), by repeat (first | (with_reducible first | exact HB.out | apply below_alloc | apply pw_below_drewN | apply below_drew1 | refine below_set ?_ GE377.out) | exact HB.out)⟩

end Go.Proofs.YtoejhekppfgmpaaDoor.C
end
