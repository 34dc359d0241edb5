/- What the proof of FnKeys leans on, part 17: cut out of the texts of this claim's making by a program (wip/tools/pack.py). -/
import Derived.Test.YtgdcafbdkidamaaGreatDoorKKeys15
import Derived.Test.YtgdcafbdkidamaaGreatDoorKKeys16
import Derived.Lib.BufferWrite
import Derived.Lib.Hide
import Derived.Lib.IndexBytes
import Derived.LoopTactic
import Derived.StillTailTactics
import Derived.WalkSpells
section
namespace Go.Proofs.YtgdcafbdkidamaaGreatDoor.K3
open Go Go.RowKit Go.Proofs.YtgdcafbdkidamaaGreatDoorW.PrintWords Go.Proofs.YtgdcafbdkidamaaGreatDoorW.PrintLast Go.Proofs.YtgdcafbdkidamaaGreatDoorW.PrintMore Go.Proofs.YtgdcafbdkidamaaGreatDoor.K0 Go.Proofs.YtgdcafbdkidamaaGreatDoor.K2
set_option linter.unusedVariables false
set_option linter.unusedSimpArgs false
/-- a text's bytes, as numbers -/
def sb (s : ByteArray) : List Int := s.data.toList.map fun b => (b.toNat : Int)
theorem sb_len (s : ByteArray) : (sb s).length = s.size := by rw [sb, List.length_map]; rfl
theorem sb_cells (s : ByteArray) : Lib.byteCells s.data.toList = c8 (sb s) := by unfold Lib.byteCells c8 sb; rw [List.map_map]; rfl
theorem c8_take (l : List Int) (n : Nat) : (c8 l).take n = c8 (l.take n) := by unfold c8; rw [List.map_take]
theorem c8_drop (l : List Int) (n : Nat) : (c8 l).drop n = c8 (l.drop n) := by unfold c8; rw [List.map_drop]
theorem c8_app (a b : List Int) : c8 (a ++ b) = c8 a ++ c8 b := List.map_append ..
theorem c8_one (l : List Int) : ∀ v ∈ c8 l, v.oneCell' = true := by
  intro v hv
  simp only [c8, List.mem_map] at hv
  obtain ⟨b, _, rfl⟩ := hv
  rfl
theorem sb_drop (s : ByteArray) (n : Nat) : sb (s.extract n s.size) = (sb s).drop n := by unfold sb; rw [Lib.extract_to_end, List.map_drop]

/-- copy from a text that need not fit -/
theorem run_copy_str_n {P : Program} (w : World) (dT sT ty elem : TypeId) (g o dLen dCap n : Nat) (s : ByteArray) (cur : Array Value) (t : TypeId)
    (hu : P.underlying dT = some (.slice elem)) (hs : (P.info? elem).map (·.size) = some 1) (hg : w.heap[g]? = some (.cells cur t (0, 0))) (hn : n = Nat.min s.size dLen) (hfit : o + n ≤ cur.size) :
    (Builtin.copy_ #[dT, sT] ty #[.slice (some ⟨g, o, none⟩) dLen dCap, .string s]).run P w =
      .ok (goInt n) (w.setRow g (cur.toList.take o ++ c8 ((sb s).take n) ++ cur.toList.drop (o + n)).toArray) := by
  have hle : n ≤ s.size := by rw [hn]; exact Nat.min_le_left _ _
  have hlen : (c8 ((sb s).take n)).length = n := by rw [c8_len, List.length_take, sb_len]; omega
  have hst := run_storeCells_at P g o t (c8 ((sb s).take n)) 0 cur w hg (by rw [hlen]; simpa using hfit) (c8_one _)
  have htk : List.take n (List.map (fun b : UInt8 => Value.int IntKind.u8 (b.toNat : Int)) s.data.toList) = c8 ((sb s).take n) := by
    rw [← c8_take, ← sb_cells]; rfl
  rw [hlen] at hst
  simp only [Nat.add_zero] at hst
  cases hq : P.info? elem with
  | none => simp [hq] at hs
  | some i =>
    simp [Builtin.copy_, run_underlying hu, Builtin.lenOf, Builtin.firstCells, sizeOf, typeInfo, hq, ← hn]
    rw [htk, hst]
    simp [Result.andThen]

/-- bytes laid over a block -/
def over (b : List Int) (f : Nat) (xs : List Int) : List Int := b.take f ++ (xs ++ b.drop (f + xs.length))
theorem over_len (b : List Int) (f : Nat) (xs : List Int) (h : f + xs.length ≤ b.length) : (over b f xs).length = b.length := by unfold over; simp; omega
theorem over_take (b : List Int) (f : Nat) (xs : List Int) (h : f + xs.length ≤ b.length) : (over b f xs).take (f + xs.length) = b.take f ++ xs := by
  unfold over
  rw [← List.append_assoc, List.take_left' (by simp; omega)]
theorem hcl_over (h b : List Int) (fill size : Int) (hh : h.length = 8) (hb : b.length = 64) (f : Nat) (xs : List Int) (hf : f + xs.length ≤ 64) :
    (hcl h b fill size).take (8 + f) ++ c8 xs ++ (hcl h b fill size).drop (8 + f + xs.length) = hcl h (over b f xs) fill size := by
  unfold hcl over
  rw [List.take_append, List.drop_append, c32_len, hh, List.take_of_length_le (by rw [c32_len, hh]; omega), List.drop_eq_nil_of_le (by rw [c32_len, hh]; omega), List.nil_append, Nat.add_sub_cancel_left, show 8 + f + xs.length - 8 = f + xs.length by omega]
  rw [List.take_append_of_le_length (by rw [c8_len, hb]; omega), List.drop_append_of_le_length (by rw [c8_len, hb]; omega), c8_take, c8_drop]
  simp [c8_app, List.append_assoc]
theorem gb_setRow (w : World) (g : Nat) (cs : Array Value) : w.grownBy (w.setRow g cs) (some g) :=
  ⟨rfl, rfl, rfl, by simp [World.setRow], fun k _ hk => setRow_other w g k cs (fun e => hk (by simp [e]))⟩

theorem wpList_copy_blk {w : World} {ops : Array Oper} {rest : List Oper} {o : Oper} {a : Act} {Q : Exit → Act → World → Prop} (hgd : o.guard = none) (d s : Operand)
    (ho : o.op = .call { callee := .builtin .copy, args := #[d, s], argTypes := #[46, 9] })
    (g f n dCap : Nat) (x : ByteArray) (h b : List Int) (fill size : Int) (hd : a.eval d = .slice (some ⟨g, 8 + f, none⟩) (64 - f) dCap) (hs : a.eval s = .string x) (H : HB w g h b fill size) (hf : f ≤ 64) (hn : n = Nat.min x.size (64 - f))
    (K : ∀ w1, HB w1 g h (over b f ((sb x).take n)) fill size → w.grownBy w1 (some g) → wpList Tryz.prog ops Q rest (a.put o.dst (.int .i64 n)) w1) : wpList Tryz.prog ops Q (o :: rest) a w := by
  refine wpList_plain hgd fun K' hK => ?_
  have hle : n ≤ 64 - f := by rw [hn]; exact Nat.min_le_right _ _
  have hlx : n ≤ x.size := by rw [hn]; exact Nat.min_le_left _ _
  have hlen : ((sb x).take n).length = n := by rw [List.length_take, sb_len]; omega
  have hsz : (hcl h b fill size).toArray.size = 74 := by
    rw [List.size_toArray, hcl, List.length_append, List.length_append, c32_len, c8_len, H.1, H.2.1]; rfl
  have hrun := run_copy_str_n (P := Tryz.prog) w 46 9 o.type 5 g (8 + f) (64 - f) dCap n x _ _ Tryz.underlying46 (by kernel_rfl) H.2.2 hn (by rw [hsz]; omega)
  have hl := over_len b f ((sb x).take n) (by rw [hlen, H.2.1]; omega)
  have hov := hcl_over h b fill size H.1 H.2.1 f ((sb x).take n) (by rw [hlen]; omega)
  rw [hlen] at hov
  rw [show (hcl h b fill size).toArray.toList = hcl h b fill size from rfl, hov] at hrun
  have hH : HB (w.setRow g (hcl h (over b f ((sb x).take n)) fill size).toArray) g h (over b f ((sb x).take n)) fill size :=
    ⟨H.1, hl.trans H.2.1, setRow_heap w g _ _ _ _ H.2.2⟩
  unfold Oper.wp
  simp [execOp, ho, resolve, invoke, builtin, hd, hs, hrun, Result.andThen]
  exact hK _ _ (K _ hH (gb_setRow w g _))
/-- the step of a block -/
def C (kk : List Int) (st blk : List Int) : List Int := Sx.block kk st blk 0
/-- a running hash in a block: its words, what waits in the block -/
def HS (w : World) (g : Nat) (p : List Int × List Int) (size : Int) : Prop := ∃ blk, HB w g p.1 blk p.2.length size ∧ blk.take p.2.length = p.2 ∧ p.2.length < 64
theorem HS.kept {w w' : World} {g : Nat} {p : List Int × List Int} {size : Int} (H : HS w g p size) {row : Option Nat} (hg : w.grownBy w' row) (hne : some g ≠ row) : HS w' g p size := by
  obtain ⟨b, h1, h2, h3⟩ := H; exact ⟨b, h1.kept hg hne, h2, h3⟩
theorem HS.lt {w : World} {g : Nat} {p : List Int × List Int} {size : Int} (H : HS w g p size) : g < w.heap.size := by obtain ⟨b, h1, _⟩ := H; exact h1.lt
theorem Rw_ne {kk : List Int} {w : World} (hR : Rw kk w) (hk : kk.length = 64) {g : Nat} {h b : List Int} {fill size : Int} (H : HB w g h b fill size) : 3 ≠ g := by
  rintro rfl
  obtain ⟨t, fr, e⟩ := hR
  have := e.symm.trans H.2.2
  have e2 := congrArg (fun o => match o with | some (Obj.cells cs _ _) => cs.size | _ => 0) this
  simp only [List.size_toArray, hcl, List.length_append, c32_len, c8_len, hk, H.1, H.2.1, List.length_cons, List.length_nil] at e2
  omega
theorem Rw_kept {kk : List Int} {w w' : World} (hR : Rw kk w) {row : Option Nat} (hg : w.grownBy w' row) (hne : some 3 ≠ row) : Rw kk w' := by
  obtain ⟨t, fr, e⟩ := hR
  exact ⟨t, fr, (hg.block _ (Array.getElem?_eq_some_iff.1 e).1 hne).trans e⟩
theorem gb_trans {w w1 w2 : World} {row : Option Nat} (a : w.grownBy w1 row) (b : w1.grownBy w2 row) : w.grownBy w2 row :=
  ⟨b.os.trans a.os, b.tape.trans a.tape, b.output.trans a.output, Nat.le_trans a.size b.size, fun k hk hr => (b.block k (Nat.lt_of_lt_of_le hk a.size) hr).trans (a.block k hk hr)⟩
theorem gb_rf (w : World) (row : Option Nat) : w.grownBy w row := ⟨rfl, rfl, rfl, Nat.le_refl _, fun _ _ _ => rfl⟩

theorem gb_undrew {w w' : World} {row : Option Nat} (h : w.drew.grownBy w' row) : w.grownBy w' row := ⟨h.os, h.tape, h.output, h.size, h.block⟩
theorem some_ne {a b : Nat} (h : a ≠ b) : some a ≠ some b := fun e => h (Option.some.inj e)
theorem over_is {b buf : List Int} {f : Nat} (hb : b.length = 64) (h : b.take f = buf) (hlt : f < 64) {n : Nat} {xs : List Int} (hx : n ≤ xs.length) (hn : f + n ≤ 64) :
    (over b f (xs.take n)).take (f + n) = buf ++ xs.take n ∧ (f + n = 64 → over b f (xs.take n) = buf ++ xs.take n) := by
  have hl : (xs.take n).length = n := by rw [List.length_take]; omega
  have h1 := over_take b f (xs.take n) (by omega)
  rw [hl, h] at h1
  refine ⟨h1, fun e => ?_⟩
  have h2 := over_len b f (xs.take n) (by omega)
  rw [List.take_of_length_le (by omega)] at h1
  exact h1
theorem feed_a {σ : Type} (C : σ → List Int → σ) (q : σ × List Int) (xs : List Int) (n : Nat) (hx : n ≤ xs.length) (h : q.2.length + n = 64) (hlt : q.2.length < 64) :
    Sh.feedL C q (xs.take n) = (C q.1 (q.2 ++ xs.take n), []) := Sh.feed_full C (xs.take n) q.1 q.2 (by rw [List.length_take]; omega) hlt
theorem feed_cut {σ : Type} (C : σ → List Int → σ) (q : σ × List Int) (xs : List Int) (n : Nat) : Sh.feedL C q xs = Sh.feedL C (Sh.feedL C q (xs.take n)) (xs.drop n) := by
  rw [← Sh.feed_append, List.take_append_drop]
set_option maxRecDepth 100000 in
set_option maxHeartbeats 4000000 in
theorem take_c (kk : List Int) (hkk : kk.length = 64) (p : List Int × List Int) (size : Int) (g : Nat) (s : ByteArray) (hs : s.size ≤ maxLen) (hz0 : 0 ≤ size) (hz : size + s.size < 18446744073709551616) (w : World) (hR : Rw kk w) (H : HS w g p size) :
    Calls Tryz.prog 148 #[.pointer (some ⟨g, 0, none⟩), .string s] w fun e w' => e = .returned (.tuple #[]) ∧ HS w' g (Sh.feedL (C kk) p (sb s)) (size + s.size) ∧ w.grownBy w' (some g) := by
  unfold maxLen at hs
  obtain ⟨blk, hB, hbuf, hlt⟩ := H
  have hne := Rw_ne hR hkk hB
  have cz := hB.csize
  have fz := hB.free 73
  have hB' := Lib.hid hB
  have hbuf' := Lib.hid hbuf
  have hR' := Lib.hid hR
  clear hB hbuf hR
  go_enter Tryz.func148, Tryz.ntmps148
  go_wp2
  clear cz fz
  go_loopw [1] (fun i wr => ∃ (x : ByteArray) (q : List Int × List Int), i = .string x ∧ x.size ≤ s.size ∧ HS wr g q (size + s.size) ∧ w.grownBy wr (some g) ∧ Sh.feedL (C kk) q (sb x) = Sh.feedL (C kk) p (sb s)) (fun i _ => match i with | .string x => x.size | _ => 0)
  case atStart => exact ⟨s, p, rfl, Nat.le_refl _, ⟨blk, hB'.out.set_size _, hbuf'.out, hlt⟩, gb_setR (gb_rf _ _) _ _, rfl⟩
  case round =>
    clear hB' hbuf' hlt
    obtain ⟨x, q, rfl, hx, ⟨b, hB, hbuf, hlt⟩, hG, hF⟩ := hrel
    have hB' := Lib.hid hB
    have hbuf' := Lib.hid hbuf
    have hF' := Lib.hid hF
    have hG' := Lib.hid hG
    have cf := hB.cfill
    by_cases h0 : 0 < x.size
    · have hsl := fun W => slice_blk g q.2.length hlt W q.2.length rfl
      clear hB hbuf hF hG
      obtain ⟨n, hn⟩ : ∃ n, n = Nat.min x.size (64 - q.2.length) := ⟨_, rfl⟩
      have hn' := Lib.hid hn
      have hnx : n ≤ x.size := by rw [hn]; exact Nat.min_le_left _ _
      have hnx2 : (n : Int) ≤ x.size := by omega
      have hn0 : 0 < n := by
        have : 0 < 64 - q.2.length := by omega
        rw [hn]; exact Nat.lt_min.2 ⟨h0, this⟩
      have hnf : q.2.length + n ≤ 64 := by
        have : n ≤ 64 - q.2.length := by rw [hn]; exact Nat.min_le_right _ _
        omega
      clear hn
      obtain ⟨hov1, hov2⟩ := over_is hB'.out.2.1 hbuf'.out hlt (n := n) (xs := sb x) (by rw [sb_len]; exact hnx) hnf
      have hov1' := Lib.hid hov1
      have hov2' := Lib.hid hov2
      clear hov1 hov2
      by_cases hfull : q.2.length + n = 64
      · have hfull' : ((q.2.length : Int) + (n : Int) == 64) = true := by rw [beq_iff_eq]; omega
        have hfd' := Lib.hid (feed_a (C kk) q (sb x) n (by rw [sb_len]; exact hnx) hfull hlt)
        generalize hfl : q.2.length = f at *
        have hfl' := Lib.hid hfl
        clear hfl hfull
        go_wp2
        go_still_tail 9, (by kernel_rfl)
        go_wp2_with (refine wpList_copy_blk rfl (.tmp 25) (.tmp 26) rfl g f n (64 - f) x q.1 b f _ rfl rfl hB'.out (by omega) hn'.out ?_; intro w1 hB1 hG1; have cf1 := hB1.cfill; have ff1 := hB1.free 72; have hB1' := Lib.hid hB1; have hG1' := Lib.hid (gb_undrew hG1); clear hB1 hG1)
        go_at_call 161
        refine (turn_c kk _ _ _ _ g _ hkk (Rw_kept (Rw_kept (Rw_kept hR'.out hG'.out (some_ne hne)) hG1'.out (some_ne hne)) (gb_setR (gb_rf _ _) _ _) (some_ne hne)) (hB1'.out.set_fill _)).mono ?_; rintro e w2 ⟨rfl, hB2, hG2⟩; have cf2 := hB2.cfill; have ff2 := hB2.free 72; have hB2' := Lib.hid hB2; have hG2' := Lib.hid hG2; clear hB2 hG2
        go_wp2
        go_roundw
        case rel =>
          have e64 : f + n = 64 := by have := beq_iff_eq.1 hfull'; omega
          have hB3 := hB2'.out.set_fill 0
          rw [hov2'.out e64] at hB3
          refine ⟨_, (C kk q.1 (q.2 ++ (sb x).take n), []), rfl, ?_, ⟨_, hB3, rfl, by simp⟩, ?_, ?_⟩
          · simp; omega
          · exact gb_setR (gb_trans (gb_setR (gb_trans hG'.out hG1'.out) _ _) hG2'.out) _ _
          · rw [sb_drop, ← hfd'.out, ← feed_cut]; exact hF'.out
        case measure => simp; omega
      · have hfull' : ((q.2.length : Int) + (n : Int) == 64) = false := by rw [beq_eq_false_iff_ne]; omega
        have hfd' := Lib.hid (Sh.feed_short (C kk) ((sb x).take n) q.1 q.2 (by rw [List.length_take]; omega))
        generalize hfl : q.2.length = f at *
        have hfl' := Lib.hid hfl
        clear hfl hfull
        go_wp2
        go_still_tail 9, (by kernel_rfl)
        go_wp2_with (refine wpList_copy_blk rfl (.tmp 25) (.tmp 26) rfl g f n (64 - f) x q.1 b f _ rfl rfl hB'.out (by omega) hn'.out ?_; intro w1 hB1 hG1; have cf1 := hB1.cfill; have ff1 := hB1.free 72; have hB1' := Lib.hid hB1; have hG1' := Lib.hid (gb_undrew hG1); clear hB1 hG1)
        go_roundw
        case rel =>
          have e64 : f + n < 64 := by have := beq_eq_false_iff_ne.1 hfull'; omega
          have hl : ((q.1, q.2 ++ (sb x).take n) : List Int × List Int).2.length = f + n := by
            show (q.2 ++ (sb x).take n).length = f + n
            rw [List.length_append, List.length_take, sb_len, hfl'.out]; omega
          have hB3 := hB1'.out.set_fill (f + n)
          refine ⟨_, (q.1, q.2 ++ (sb x).take n), rfl, ?_, ⟨over b f ((sb x).take n), ?_, ?_, ?_⟩, ?_, ?_⟩
          · simp; omega
          · rw [hl]; exact hB3
          · rw [hl]; exact hov1'.out
          · rw [hl]; exact e64
          · exact gb_setR (gb_trans hG'.out hG1'.out) _ _
          · rw [sb_drop, ← hfd'.out, ← feed_cut]; exact hF'.out
        case measure => simp; omega
    · have hx0 : x.size = 0 := by omega
      go_wp2
      go_end0
      have hx1 : sb x = [] := List.eq_nil_of_length_eq_zero (by rw [sb_len]; exact hx0)
      have hq := hF'.out
      rw [hx1, Sh.feed_nil] at hq
      rw [← hq]
      exact ⟨rfl, ⟨b, hB'.out, hbuf'.out, hlt⟩, hG'.out⟩
end Go.Proofs.YtgdcafbdkidamaaGreatDoor.K3
end
