/- What the proof of FnExactUnseal leans on, part 32: cut out of the texts of this claim's making by a program (wip/tools/pack.py). -/
import Derived.Test.YtgdcafbdkidamaaGreatDoorKUnseal5
import Derived.Test.YtgdcafbdkidamaaGreatDoorKUnseal8
import Derived.Test.YtgdcafbdkidamaaGreatDoorKUnseal14
import Derived.Test.YtgdcafbdkidamaaGreatDoorKUnseal20
import Derived.Test.YtgdcafbdkidamaaGreatDoorKUnseal23
import Derived.Test.YtgdcafbdkidamaaGreatDoorKUnseal26
import Derived.Test.YtgdcafbdkidamaaGreatDoorKUnseal28
import Derived.Test.YtgdcafbdkidamaaGreatDoorKUnseal30
import Derived.Test.YtgdcafbdkidamaaGreatDoorKUnseal31
import Derived.KernelRfl
section
namespace Go.Proofs.YtgdcafbdkidamaaGreatDoor.Sl
open Go Go.RowKit Go.Proofs.YtgdcafbdkidamaaGreatDoorW.PrintWords Go.Proofs.YtgdcafbdkidamaaGreatDoorW.PrintLast Go.Proofs.YtgdcafbdkidamaaGreatDoorW.PrintMore Go.Proofs.YtgdcafbdkidamaaGreatDoor.Ve Go.Proofs.YtgdcafbdkidamaaGreatDoor.VeT Go.Proofs.YtgdcafbdkidamaaGreatDoor.VeE Go.Proofs.YtgdcafbdkidamaaGreatDoor.G3 Go.Proofs.YtgdcafbdkidamaaGreatDoor.KG2 Go.Proofs.YtgdcafbdkidamaaGreatDoor.KH2 Go.Proofs.YtgdcafbdkidamaaGreatDoor.DK Go.Proofs.YtgdcafbdkidamaaGreatDoor.S5 Go.Proofs.YtgdcafbdkidamaaGreatDoor.K5 Go.Proofs.YtgdcafbdkidamaaGreatDoor.C Go.Proofs.YtgdcafbdkidamaaGreatDoor.Pure Go.Proofs.YtgdcafbdkidamaaGreatDoor.B Go.Proofs.YtgdcafbdkidamaaGreatDoor.D
set_option linter.unusedVariables false
set_option linter.unusedSimpArgs false
/-- a text that belongs to a secret and a nonce -/
def prt (s n wd : ByteArray) : ByteArray := exp1 (hm1 ⟨#[]⟩ s) (n ++ wd) 32
/-- the private key, and its code -/
def pvt (s n : ByteArray) : Int × Int := dk 0 (prt s n ⟨#[80, 114, 105, 118, 97, 116, 101]⟩) ⟨#[67, 108, 105, 101, 110, 116]⟩
theorem hm1_size (a b : ByteArray) : (hm1 a b).size = 32 := by rw [Hp.hm_eq, Hp.sha1_size]
theorem exp_impl (x i : ByteArray) (hx : x.size ≤ 1048576) (hi : i.size ≤ 2097152) : impl_Expand.f x i 32 = some (exp1 x i 32, true) := by
  unfold impl_Expand.f
  rw [if_neg (by decide), if_neg (by decide), if_pos (by omega), if_pos (by omega)]; rfl
theorem app_size (a b : ByteArray) : (a ++ b).size = a.size + b.size := ByteArray.size_append
set_option maxRecDepth 100000 in
set_option maxHeartbeats 8000000 in
theorem secrets_c (s n : ByteArray) (hs : s.size ≤ 1048576) (hn : n.size ≤ 1048576) (w : World) (hG : G w) :
    Calls Tryz.prog 72 #[.string s, .string n] w fun e w' => e = .returned (.tuple #[.agg #[.string (prt s n ⟨#[65, 117, 116, 104]⟩), .string (prt s n ⟨#[69, 120, 112, 111, 114, 116]⟩), .int .u64 (pvt s n).1], .bool ((pvt s n).2 == 0)]) ∧ Below w.heap.size w w' := by
  have e0 : impl_Extract.f (⟨#[]⟩ : ByteArray) s = some (hm1 ⟨#[]⟩ s) := by unfold impl_Extract.f; rw [if_pos (by decide), if_pos (by omega)]
  have hx := hm1_size ⟨#[]⟩ s
  have z1 : (⟨#[65, 117, 116, 104]⟩ : ByteArray).size = 4 := rfl
  have z2 : (⟨#[69, 120, 112, 111, 114, 116]⟩ : ByteArray).size = 6 := rfl
  have z3 : (⟨#[80, 114, 105, 118, 97, 116, 101]⟩ : ByteArray).size = 7 := rfl
  have z4 : (⟨#[67, 108, 105, 101, 110, 116]⟩ : ByteArray).size = 6 := rfl
  have e1 := exp_impl (hm1 ⟨#[]⟩ s) (n ++ ⟨#[65, 117, 116, 104]⟩) (by omega) (by rw [app_size]; omega)
  have e2 := exp_impl (hm1 ⟨#[]⟩ s) (n ++ ⟨#[69, 120, 112, 111, 114, 116]⟩) (by omega) (by rw [app_size]; omega)
  have e3 := exp_impl (hm1 ⟨#[]⟩ s) (n ++ ⟨#[80, 114, 105, 118, 97, 116, 101]⟩) (by omega) (by rw [app_size]; omega)
  have y1 : n.size + (⟨#[65, 117, 116, 104]⟩ : ByteArray).size ≤ 9223372036854775807 := by omega
  have y2 : n.size + (⟨#[69, 120, 112, 111, 114, 116]⟩ : ByteArray).size ≤ 9223372036854775807 := by omega
  have y3 : n.size + (⟨#[80, 114, 105, 118, 97, 116, 101]⟩ : ByteArray).size ≤ 9223372036854775807 := by omega
  have hp3 : (exp1 (hm1 ⟨#[]⟩ s) (n ++ ⟨#[80, 114, 105, 118, 97, 116, 101]⟩) 32).size < 274877906944 := by
    unfold exp1
    show (List.toArray _).size < _
    rw [List.size_toArray, List.length_take]
    omega
  obtain ⟨⟨k, c⟩, e4⟩ : ∃ q, pvt s n = q := ⟨_, rfl⟩
  have e5 : impl_DeriveKey.f 0 (exp1 (hm1 ⟨#[]⟩ s) (n ++ ⟨#[80, 114, 105, 118, 97, 116, 101]⟩) 32) ⟨#[67, 108, 105, 101, 110, 116]⟩ = some (k, c) := by
    unfold impl_DeriveKey.f
    rw [if_pos hp3, if_pos (by omega)]
    exact congrArg some e4
  rw [e4]
  unfold prt
  generalize hm1 ⟨#[]⟩ s = x at *
  generalize exp1 x (n ++ ⟨#[65, 117, 116, 104]⟩) 32 = p1 at *
  generalize exp1 x (n ++ ⟨#[69, 120, 112, 111, 114, 116]⟩) 32 = p2 at *
  generalize exp1 x (n ++ ⟨#[80, 114, 105, 118, 97, 116, 101]⟩) 32 = p3 at *
  clear e4 hp3 hx hs hn z1 z2 z3 z4
  refine ve_fn (args := [.string s, .string n]) Tryz.func72 rfl Tryz.ntmps72 rfl (good (Γ := fun W => G W) (fun W hb => G_below hb hG)) ?_
  repeat' (first | refine rbt ?_ | refine rbf ?_ | refine wn ?_ | refine wq ?_ | refine wc_plain ?_ | refine wc_draw ?_ | refine rZ ?_ | refine rD ?_ | refine ve8 ?_ | refine ve4 ?_ | refine ve3 ?_ | refine ve1 ?_ | refine ve2 ?_ | refine ve5 ?_ | refine ve6 ?_ | refine ve7 ?_ | refine ve9 ?_ | refine rA ?_ | refine rE ?_ | refine rC ?_ | refine rB ?_ | refine rG ?_ | refine rH ?_ | refine rI ?_ | refine rJ ?_ | refine rcb ?_ | refine rcp (Pre := impl_Extract.f _ _ = some _) (fun hp_ w_ hΓ => impl_Extract.calls _ _ _ w_ (by first | exact hΓ | exact hΓ.1 | exact hΓ.z | exact hΓ.r | exact hΓ.1.z | exact hΓ.1.r) hp_) ?_ | refine rcp (Pre := impl_Expand.f _ _ _ = some (_, _)) (fun hp_ w_ hΓ => impl_Expand.calls _ _ _ _ _ w_ (by first | exact hΓ | exact hΓ.1 | exact hΓ.z | exact hΓ.r | exact hΓ.1.z | exact hΓ.1.r) hp_) ?_ | refine rcp (Pre := impl_DeriveKey.f _ _ _ = some (_, _)) (fun hp_ w_ hΓ => impl_DeriveKey.calls _ _ _ _ _ w_ (by first | exact hΓ | exact hΓ.1 | exact hΓ.z | exact hΓ.r | exact hΓ.1.z | exact hΓ.1.r) hp_) ?_ | refine wc_loop 4 ?_ | refine wl_succ ?_ | refine wb ?_ | refine wk ?_ | refine we ?_ | exact wt | refine wr ?_ | refine rr1 ?_ | refine rr2 ?_ | exact fr | exact fe | refine wTs ?_ | refine wFs ?_ | refine rof ?_ | refine rof0 ?_)
end Go.Proofs.YtgdcafbdkidamaaGreatDoor.Sl
end
section
namespace Go.Proofs.YtgdcafbdkidamaaGreatDoor.Sl
open Go Go.RowKit Go.Proofs.YtgdcafbdkidamaaGreatDoorW.PrintWords Go.Proofs.YtgdcafbdkidamaaGreatDoorW.PrintLast Go.Proofs.YtgdcafbdkidamaaGreatDoorW.PrintMore Go.Proofs.YtgdcafbdkidamaaGreatDoor.Ve Go.Proofs.YtgdcafbdkidamaaGreatDoor.VeT Go.Proofs.YtgdcafbdkidamaaGreatDoor.VeE Go.Proofs.YtgdcafbdkidamaaGreatDoor.G3 Go.Proofs.YtgdcafbdkidamaaGreatDoor.KG2 Go.Proofs.YtgdcafbdkidamaaGreatDoor.KH2 Go.Proofs.YtgdcafbdkidamaaGreatDoor.DK Go.Proofs.YtgdcafbdkidamaaGreatDoor.S5 Go.Proofs.YtgdcafbdkidamaaGreatDoor.K5 Go.Proofs.YtgdcafbdkidamaaGreatDoor.C Go.Proofs.YtgdcafbdkidamaaGreatDoor.Pure Go.Proofs.YtgdcafbdkidamaaGreatDoor.T6 Go.Proofs.YtgdcafbdkidamaaGreatDoor.B Go.Proofs.YtgdcafbdkidamaaGreatDoor.D
open EC Fp Grp Vi
set_option linter.unusedVariables false
set_option linter.unusedSimpArgs false
theorem base_enc : (1, 509478702933351334, false) = enc base := by decide +kernel
def sealOk (s n : ByteArray) (x y : Int) (i : Bool) (u : ByteArray) : Prop := s.size = 32 ∧ n.size = 16 ∧ 1 ≤ u.size ∧ u.size ≤ 32 ∧ oc x y i = true ∧ i = false
instance (s n : ByteArray) (x y : Int) (i : Bool) (u : ByteArray) : Decidable (sealOk s n x y i u) := by unfold sealOk; infer_instance
/-- the mac of a sealed record -/
def smac (s n : ByteArray) (x y : Int) (i : Bool) (u : ByteArray) : ByteArray := K6.hm Ks.kk (prt s n ⟨#[65, 117, 116, 104]⟩) [n, putWord (ptWord x y i), szd u]
/-- the public key -/
def spub (s n : ByteArray) : Int × Int × Bool := enc (sm' (pvt s n).1.toNat base)
/-- user, public key, box; export key; whether it could be -/
def sealV (s n : ByteArray) (x y : Int) (i : Bool) (u : ByteArray) : ByteArray × (Int × Int × Bool) × ByteArray × ByteArray × Bool :=
  if sealOk s n x y i u ∧ (pvt s n).2 = 0 then (u, spub s n, n ++ smac s n x y i u, prt s n ⟨#[69, 120, 112, 111, 114, 116]⟩, true) else (⟨#[]⟩, (0, 0, false), ⟨#[]⟩, ⟨#[]⟩, false)
def sealR (r : ByteArray × (Int × Int × Bool) × ByteArray × ByteArray × Bool) : Value := .tuple #[.agg #[.string r.1, .int .u64 r.2.1.1, .int .u64 r.2.1.2.1, .bool r.2.1.2.2, .string r.2.2.1], .string r.2.2.2.1, .bool r.2.2.2.2]
theorem ttx_one (u : ByteArray) : ttx [.sized u] = szd u := by unfold ttx tbs; simp [Part.txt]
theorem ttot_one' (u : ByteArray) : ttot [.sized u] = 2 + u.size := by unfold ttot; simp [Part.txt, szd_size]; omega
theorem hts_range (a b : ByteArray) : 0 ≤ (T7.htsV a b).1 ∧ (T7.htsV a b).1 < 2305843010818082053 := by
  unfold T7.htsV
  split
  · rename_i h
    show 0 ≤ rd (Hf.htf a b _ 1).1 0 ∧ rd (Hf.htf a b _ 1).1 0 < _
    unfold Hf.htf at h ⊢
    split
    · rename_i g; rw [if_pos g] at h; cases h
    · rename_i g
      rw [if_neg g] at h
      split
      · rename_i g2; rw [if_pos g2] at h; cases h
      · rw [show (1 : Int).toNat = 1 from rfl]
        have h0 := rd_hl 2305843010818082053 (by decide) (KE2.em1 a b (24 * 1)) 1 0 (by omega)
        rw [show ((0 : Nat) : Int) = 0 from rfl] at h0
        dsimp only
        generalize Hf.hl 2305843010818082053 (KE2.em1 a b (24 * 1)) 1 = z at *
        exact h0
  · exact ⟨by decide, by decide⟩
theorem kd_range (m : Int) (s i : ByteArray) (j : Nat) : 0 ≤ kd m s i j ∧ kd m s i j < 2305843010818082053 := hts_range _ _
theorem dkF_range (m : Int) (s i : ByteArray) : ∀ d j, 0 ≤ (dkF m s i d j).1 ∧ (dkF m s i d j).1 < 2305843010818082053 ∧ ((dkF m s i d j).2 = 0 → 0 < (dkF m s i d j).1)
  | 0, j => ⟨by show (0 : Int) ≤ 0; decide, by show (0 : Int) < 2305843010818082053; decide, fun h => absurd (show (3 : Int) = 0 from h) (by decide)⟩
  | d + 1, j => by
    have hk := kd_range m s i j
    have ih := dkF_range m s i d (j + 1)
    unfold dkF
    generalize kd m s i j = z at *
    split
    · exact ih
    · rename_i h
      exact ⟨hk.1, hk.2, fun _ => by show 0 < z; omega⟩
theorem dk_range (m : Int) (s i : ByteArray) : 0 ≤ (dk m s i).1 ∧ (dk m s i).1 < 2305843010818082053 ∧ ((dk m s i).2 = 0 → 0 < (dk m s i).1) := by
  unfold dk
  split
  · exact ⟨by decide, by decide, fun h => absurd h (by decide)⟩
  · exact dkF_range m s i 256 0
theorem hm_size (k : ByteArray) (xs : List ByteArray) : (K6.hm Ks.kk k xs).size = 32 := by unfold K6.hm; rw [strOfNums_size]; rfl
theorem spub_impl (s n : ByteArray) : impl_Times.f 1000 (pvt s n).1 1 509478702933351334 false = some (spub s n) := by
  have h := dk_range 0 (prt s n ⟨#[80, 114, 105, 118, 97, 116, 101]⟩) ⟨#[67, 108, 105, 101, 110, 116]⟩
  have := times_impl base cv_base (pvt s n).1 h.1 (by show (dk _ _ _).1 < _; omega) (k := 1000) (by decide)
  rw [← base_enc] at this
  exact this
end Go.Proofs.YtgdcafbdkidamaaGreatDoor.Sl
end
section
namespace Go.Proofs.YtgdcafbdkidamaaGreatDoor.Sl
open Go Go.RowKit Go.Proofs.YtgdcafbdkidamaaGreatDoorW.PrintWords Go.Proofs.YtgdcafbdkidamaaGreatDoorW.PrintLast Go.Proofs.YtgdcafbdkidamaaGreatDoorW.PrintMore Go.Proofs.YtgdcafbdkidamaaGreatDoor.Ve Go.Proofs.YtgdcafbdkidamaaGreatDoor.VeT Go.Proofs.YtgdcafbdkidamaaGreatDoor.VeE Go.Proofs.YtgdcafbdkidamaaGreatDoor.G3 Go.Proofs.YtgdcafbdkidamaaGreatDoor.KG2 Go.Proofs.YtgdcafbdkidamaaGreatDoor.KH2 Go.Proofs.YtgdcafbdkidamaaGreatDoor.DK Go.Proofs.YtgdcafbdkidamaaGreatDoor.S5 Go.Proofs.YtgdcafbdkidamaaGreatDoor.K5 Go.Proofs.YtgdcafbdkidamaaGreatDoor.C Go.Proofs.YtgdcafbdkidamaaGreatDoor.Pure Go.Proofs.YtgdcafbdkidamaaGreatDoor.T6 Go.Proofs.YtgdcafbdkidamaaGreatDoor.B Go.Proofs.YtgdcafbdkidamaaGreatDoor.D
open EC Fp Grp Vi
set_option linter.unusedVariables false
set_option linter.unusedSimpArgs false
abbrev tPart : TypeId := 162
abbrev tPs : TypeId := 157
abbrev tSs : TypeId := 152
abbrev tSized : TypeId := 118
abbrev tStr : TypeId := 9
set_option maxRecDepth 100000 in
set_option maxHeartbeats 8000000 in
theorem seal_c (s n u : ByteArray) (x y : Int) (i : Bool) (hs : s.size ≤ 1048576) (hn : n.size ≤ 1048576) (hu : u.size ≤ 1048576) (hx : 0 ≤ x ∧ x < 18446744073709551616) (hy : 0 ≤ y ∧ y < 18446744073709551616) (w : World) (hG : G w) :
    Calls Tryz.prog 35 #[.string s, .string n, .agg #[.int .u64 x, .int .u64 y, .bool i], .string u] w fun e w' => e = .returned (sealR (sealV s n x y i u)) ∧ Below w.heap.size w w' := by
  have e1 := proper_impl x y i hx.1 hx.2 hy.1 hy.2 (k := 1000) (by decide)
  have e2 := putPoint_impl x y i hx.1 hx.2 hy.1 hy.2 (k := 1000) (by decide)
  have e3 := spub_impl s n
  have hc : ∀ w, G w → Calls Tryz.prog 72 #[.string s, .string n] w _ := fun w hG => secrets_c s n hs hn w hG
  have hpu : (prt s n ⟨#[65, 117, 116, 104]⟩).size < 1152921504606846976 := by
    unfold prt exp1
    show (List.toArray _).size < _
    rw [List.size_toArray, List.length_take]
    omega
  have hpw := putWord_size (ptWord x y i)
  have hzz := szd_size u
  have hm := hm_size (prt s n ⟨#[65, 117, 116, 104]⟩) [n, putWord (ptWord x y i), szd u]
  have htot : 64 + tot [n, putWord (ptWord x y i), szd u] < 1152921504606846976 := by unfold tot; simp only [List.map_cons, List.map_nil, List.sum_cons, List.sum_nil]; omega
  have hcat : n.size + (smac s n x y i u).size ≤ 9223372036854775807 := by show n.size + (K6.hm _ _ _).size ≤ _; omega
  have httl : ttot [.sized u] < 70368744177664 := by rw [ttot_one']; omega
  have hsV : sealV s n x y i u = if sealOk s n x y i u ∧ (pvt s n).2 = 0 then (u, spub s n, n ++ smac s n x y i u, prt s n ⟨#[69, 120, 112, 111, 114, 116]⟩, true) else (⟨#[]⟩, (0, 0, false), ⟨#[]⟩, ⟨#[]⟩, false) := rfl
  unfold sealOk at hsV
  unfold smac at hsV hcat
  have htx := ttx_one u
  generalize (pvt s n).2 = c at *
  generalize (pvt s n).1 = k at *
  generalize prt s n ⟨#[65, 117, 116, 104]⟩ = pa at *
  generalize prt s n ⟨#[69, 120, 112, 111, 114, 116]⟩ = pe at *
  generalize putWord (ptWord x y i) = pp at *
  obtain ⟨⟨q1, q2, q3⟩, hq⟩ : ∃ q, spub s n = q := ⟨_, rfl⟩
  rw [hq] at e3 hsV
  generalize hpr : (oc x y i && !i) = pr at *
  generalize sealV s n x y i u = V at *
  have z1 : ((s.size : Int) != 32) = true ∨ ((s.size : Int) != 32) = false := by cases ((s.size : Int) != 32) <;> simp
  have z2 : ((n.size : Int) != 16) = true ∨ ((n.size : Int) != 16) = false := by cases ((n.size : Int) != 16) <;> simp
  have b5 : impl_Base.f = some (1, 509478702933351334, false) := rfl
  have no : ¬ ((s.size = 32 ∧ n.size = 16 ∧ 1 ≤ u.size ∧ u.size ≤ 32 ∧ oc x y i = true ∧ i = false) ∧ c = 0) → V = (⟨#[]⟩, (0, 0, false), ⟨#[]⟩, ⟨#[]⟩, false) := fun h => hsV.trans (if_neg h)
  have zc : (c == 0) = decide (c = 0) := by by_cases h : c = 0 <;> simp [h]
  generalize (c == 0) = cb at *
  refine ve_fn (args := [.string s, .string n, .agg #[.int .u64 x, .int .u64 y, .bool i], .string u]) Tryz.func35 rfl Tryz.ntmps35 rfl (good (Γ := fun W => G W) (fun W hb => G_below hb hG)) ?_
  rcases z1 with z1 | z1
  · have hV := no (by rintro ⟨⟨h, _⟩, _⟩; simp [h] at z1)
    rw [hV]; clear hV no hsV e1 e2 e3 hpr hpw hzz hm htot hcat httl htx hc hpu zc b5 hq
    repeat' (first | refine rbt ?_ | refine rbf ?_ | refine wn ?_ | refine wq ?_ | refine wc_plain ?_ | refine wc_draw ?_ | refine rZ ?_ | refine rD ?_ | refine ve8 ?_ | refine ve4 ?_ | refine ve3 ?_ | refine ve1 ?_ | refine ve2 ?_ | refine ve5 ?_ | refine ve6 ?_ | refine ve7 ?_ | refine ve9 ?_ | refine rA ?_ | refine rE ?_ | refine rC ?_ | refine rB ?_ | refine rG ?_ | refine rH ?_ | refine rI ?_ | refine rJ ?_ | refine rcb ?_ | refine wb ?_ | refine wk ?_ | refine we ?_ | exact wt | refine wr ?_ | refine rr1 ?_ | refine rr2 ?_ | exact fr | exact fe | refine wTs ?_ | refine wFs ?_ | refine rof ?_ | refine rof0 ?_)
  rcases z2 with z2 | z2
  · have hV := no (by rintro ⟨⟨_, h, _⟩, _⟩; simp [h] at z2)
    rw [hV]; clear hV no hsV e1 e2 e3 hpr hpw hzz hm htot hcat httl htx hc hpu zc b5 hq
    repeat' (first | refine rbt ?_ | refine rbf ?_ | refine wn ?_ | refine wq ?_ | refine wc_plain ?_ | refine wc_draw ?_ | refine rZ ?_ | refine rD ?_ | refine ve8 ?_ | refine ve4 ?_ | refine ve3 ?_ | refine ve1 ?_ | refine ve2 ?_ | refine ve5 ?_ | refine ve6 ?_ | refine ve7 ?_ | refine ve9 ?_ | refine rA ?_ | refine rE ?_ | refine rC ?_ | refine rB ?_ | refine rG ?_ | refine rH ?_ | refine rI ?_ | refine rJ ?_ | refine rcb ?_ | refine wb ?_ | refine wk ?_ | refine we ?_ | exact wt | refine wr ?_ | refine rr1 ?_ | refine rr2 ?_ | exact fr | exact fe | refine wTs ?_ | refine wFs ?_ | refine rof ?_ | refine rof0 ?_)
  by_cases z3 : (u.size : Int) < 1
  · have hV := no (by rintro ⟨⟨_, _, h, _⟩, _⟩; omega)
    rw [hV]; clear hV no hsV e1 e2 e3 hpr hpw hzz hm htot hcat httl htx hc hpu zc b5 hq
    repeat' (first | refine rbt ?_ | refine rbf ?_ | refine wn ?_ | refine wq ?_ | refine wc_plain ?_ | refine wc_draw ?_ | refine rZ ?_ | refine rD ?_ | refine ve8 ?_ | refine ve4 ?_ | refine ve3 ?_ | refine ve1 ?_ | refine ve2 ?_ | refine ve5 ?_ | refine ve6 ?_ | refine ve7 ?_ | refine ve9 ?_ | refine rA ?_ | refine rE ?_ | refine rC ?_ | refine rB ?_ | refine rG ?_ | refine rH ?_ | refine rI ?_ | refine rJ ?_ | refine rcb ?_ | refine wb ?_ | refine wk ?_ | refine we ?_ | exact wt | refine wr ?_ | refine rr1 ?_ | refine rr2 ?_ | exact fr | exact fe | refine wTs ?_ | refine wFs ?_ | refine rof ?_ | refine rof0 ?_)
  by_cases z4 : (u.size : Int) > 32
  · have hV := no (by rintro ⟨⟨_, _, _, h, _⟩, _⟩; omega)
    rw [hV]; clear hV no hsV e1 e2 e3 hpr hpw hzz hm htot hcat httl htx hc hpu zc b5 hq
    repeat' (first | refine rbt ?_ | refine rbf ?_ | refine wn ?_ | refine wq ?_ | refine wc_plain ?_ | refine wc_draw ?_ | refine rZ ?_ | refine rD ?_ | refine ve8 ?_ | refine ve4 ?_ | refine ve3 ?_ | refine ve1 ?_ | refine ve2 ?_ | refine ve5 ?_ | refine ve6 ?_ | refine ve7 ?_ | refine ve9 ?_ | refine rA ?_ | refine rE ?_ | refine rC ?_ | refine rB ?_ | refine rG ?_ | refine rH ?_ | refine rI ?_ | refine rJ ?_ | refine rcb ?_ | refine wb ?_ | refine wk ?_ | refine we ?_ | exact wt | refine wr ?_ | refine rr1 ?_ | refine rr2 ?_ | exact fr | exact fe | refine wTs ?_ | refine wFs ?_ | refine rof ?_ | refine rof0 ?_)
  cases pr with
  | false =>
    have hV := no (by rintro ⟨⟨_, _, _, _, h1, h2⟩, _⟩; rw [h1, h2] at hpr; exact absurd hpr (by decide))
    rw [hV]; clear hV no hsV e2 e3 hpr hpw hzz hm htot hcat httl htx hc hpu zc b5 hq
    repeat' (first | refine rbt ?_ | refine rbf ?_ | refine wn ?_ | refine wq ?_ | refine wc_plain ?_ | refine wc_draw ?_ | refine rZ ?_ | refine rD ?_ | refine ve8 ?_ | refine ve4 ?_ | refine ve3 ?_ | refine ve1 ?_ | refine ve2 ?_ | refine ve5 ?_ | refine ve6 ?_ | refine ve7 ?_ | refine ve9 ?_ | refine rA ?_ | refine rE ?_ | refine rC ?_ | refine rB ?_ | refine rG ?_ | refine rH ?_ | refine rI ?_ | refine rJ ?_ | refine rcb ?_ | refine rcp (Pre := impl_proper.f _ _ _ _ = some _) (fun hp_ w_ hΓ => impl_proper.calls _ _ _ _ _ w_ (by first | exact hΓ | exact hΓ.1 | exact hΓ.z | exact hΓ.r | exact hΓ.1.z | exact hΓ.1.r) hp_) ?_ | refine wb ?_ | refine wk ?_ | refine we ?_ | exact wt | refine wr ?_ | refine rr1 ?_ | refine rr2 ?_ | exact fr | exact fe | refine wTs ?_ | refine wFs ?_ | refine rof ?_ | refine rof0 ?_)
  | true =>
    cases cb with
    | true =>
      have hV : V = (u, (q1, q2, q3), n ++ K6.hm Ks.kk pa [n, pp, szd u], pe, true) := hsV.trans (if_pos ⟨⟨by rw [bne_eq_false_iff_eq] at z1; omega, by rw [bne_eq_false_iff_eq] at z2; omega, by omega, by omega, by simpa using hpr⟩, of_decide_eq_true zc.symm⟩)
      rw [hV]; clear hV no hsV hq hpr zc hm hzz hpw
      replace htot := Lib.hid htot
      replace httl := Lib.hid httl
      replace htx := Lib.hid htx
      replace hpu := Lib.hid hpu
      have hTr : ∀ (b : Nat) (w : World) (t : TypeId) (fr : Nat × Nat), w.heap[b]? = some (.cells [.iface 118 (.string u)].toArray t fr) → Calls Tryz.prog 82 #[.slice (some ⟨b, 0, none⟩) 1 1] w fun e w' => e = .returned (.string (szd u)) ∧ Below w.heap.size w w' := by
        intro b w t fr h
        have := T6.transcript_c b [.sized u] 1 w httl.out (by simp) (by intro p hp; simp only [List.mem_singleton] at hp; subst hp; show u.size < _; omega) ⟨t, fr, h⟩
        rw [htx.out] at this
        exact this
      have hMc : ∀ (b : Nat) (w : World) (t : TypeId) (fr : Nat × Nat), G w → w.heap[b]? = some (.cells [.string n, .string pp, .string (szd u)].toArray t fr) → Calls Tryz.prog 80 #[.string pa, .slice (some ⟨b, 0, none⟩) 3 3] w fun e w' => e = .returned (.string (K6.hm Ks.kk pa [n, pp, szd u])) ∧ Below w.heap.size w w' :=
        fun b w t fr hG h => K6.macOf_c Ks.kk Ks.kk_len pa b [n, pp, szd u] 3 w hpu.out htot.out (by simp) hG.r ⟨t, fr, h⟩
      clear htx httl htot hpu
      have hT : ∀ w, G w → Calls Tryz.prog 30 #[.int .u64 k, .agg #[.int .u64 1, .int .u64 509478702933351334, .bool false]] w _ := fun w hG => impl_Times.calls 1000 k 1 509478702933351334 false q1 q2 q3 w hG.z e3
      clear e3
      repeat' (first | refine rbt ?_ | refine rbf ?_ | refine wn ?_ | refine wq ?_ | refine wc_plain ?_ | refine wc_draw ?_ | refine rZ ?_ | refine rD ?_ | refine ve8 ?_ | refine ve4 ?_ | refine ve3 ?_ | refine ve1 ?_ | refine ve2 ?_ | refine ve5 ?_ | refine ve6 ?_ | refine ve7 ?_ | refine ve9 ?_ | refine rA ?_ | refine rE ?_ | refine rC ?_ | refine rB ?_ | refine rG ?_ | refine rH ?_ | refine rI ?_ | refine rJ ?_ | refine rcb ?_ | refine rcp (Pre := impl_proper.f _ _ _ _ = some _) (fun hp_ w_ hΓ => impl_proper.calls _ _ _ _ _ w_ (by first | exact hΓ | exact hΓ.1 | exact hΓ.z | exact hΓ.r | exact hΓ.1.z | exact hΓ.1.r) hp_) ?_ | refine rc (fun w_ hΓ => impl_Base.calls _ _ _ w_ (by assumption)) ?_ | refine rcp (Pre := impl_PutPoint.f _ _ _ _ = some _) (fun hp_ w_ hΓ => impl_PutPoint.calls _ _ _ _ _ w_ (by first | exact hΓ | exact hΓ.1 | exact hΓ.z | exact hΓ.r | exact hΓ.1.z | exact hΓ.1.r) hp_) ?_ | refine rF ?_ | refine rbs (ty := tPs) tPart ?_ | refine rbs (ty := tSs) tStr ?_ | refine rc (fun w_ hΓ => hT w_ hΓ) ?_ | refine rc (fun w_ hΓ => hc w_ hΓ) ?_ | refine rcu (as_ := [.sl _ 0 1 1]) (l := [.iface tSized (.string u)]) _ (fun G_ w_ hΓ hb_ => hTr _ w_ _ _ hb_) ?_ | refine rcu (as_ := [.v (.string pa), .sl _ 0 3 3]) (l := [.string n, .string pp, .string (szd u)]) _ (fun G_ w_ hΓ hb_ => hMc _ w_ _ _ hΓ hb_) ?_ | refine wb ?_ | refine wk ?_ | refine we ?_ | exact wt | refine wr ?_ | refine rr1 ?_ | refine rr2 ?_ | exact fr | exact fe | refine wTs ?_ | refine wFs ?_ | refine rof ?_ | refine rof0 ?_)
    | false =>
      have hV := no (by rintro ⟨_, h⟩; rw [decide_eq_true h] at zc; cases zc)
      rw [hV]; clear hV no hsV e2 e3 hpr hpw hzz hm htot hcat httl htx hpu b5 hq zc
      repeat' (first | refine rbt ?_ | refine rbf ?_ | refine wn ?_ | refine wq ?_ | refine wc_plain ?_ | refine wc_draw ?_ | refine rZ ?_ | refine rD ?_ | refine ve8 ?_ | refine ve4 ?_ | refine ve3 ?_ | refine ve1 ?_ | refine ve2 ?_ | refine ve5 ?_ | refine ve6 ?_ | refine ve7 ?_ | refine ve9 ?_ | refine rA ?_ | refine rE ?_ | refine rC ?_ | refine rB ?_ | refine rG ?_ | refine rH ?_ | refine rI ?_ | refine rJ ?_ | refine rcb ?_ | refine rcp (Pre := impl_proper.f _ _ _ _ = some _) (fun hp_ w_ hΓ => impl_proper.calls _ _ _ _ _ w_ (by first | exact hΓ | exact hΓ.1 | exact hΓ.z | exact hΓ.r | exact hΓ.1.z | exact hΓ.1.r) hp_) ?_ | refine rc (fun w_ hΓ => hc w_ hΓ) ?_ | refine wb ?_ | refine wk ?_ | refine we ?_ | exact wt | refine wr ?_ | refine rr1 ?_ | refine rr2 ?_ | exact fr | exact fe | refine wTs ?_ | refine wFs ?_ | refine rof ?_ | refine rof0 ?_)
end Go.Proofs.YtgdcafbdkidamaaGreatDoor.Sl
end
