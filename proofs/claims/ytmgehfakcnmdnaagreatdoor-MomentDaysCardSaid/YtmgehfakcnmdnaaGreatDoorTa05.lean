/-
  Lemmas and walks, texts joined: FMake, MJd, RTrim, RMade, RFrom, RTimes, RMul, RCmp, RPlus, RMinus, RSum, RAdd, RLeft, RShort, RDPl.
-/
import Derived.Recover
import Derived.Defers
import Derived.Laws.AppendOwnNone
import Derived.Deep.RegionHeld3
import Derived.Test.YtmgehfakcnmdnaaGreatDoorTa04
import Derived.Test.YtmgehfakcnmdnaaGreatDoorTa03
set_option linter.unusedSimpArgs false
set_option linter.unusedVariables false
/-
  The walks of catch (where nothing falls) and Make of package frac.
-/
namespace Go.Proofs.YtmgehfakcnmdnaaGreatDoor
namespace Wd
open Go.RowKit Lw

theorem catch_idle (p : Addr) (w : World) : CallsD Tryz.prog 75 #[.pointer (some p)] .returning w fun e u' w' => e = .returned (.tuple #[]) ∧ u' = .returning ∧ w' = w := by
  refine callsD_of_wpS Tryz.func75 rfl fun c₀ cs hu => ?_
  apply wpS_seq
  apply wpS_region
  simp [wpOpsS, go_sem, recoverD, hu, Tryz.ntmps75, Exit.thenS]
  refine wpS_of_wp ?_
  go_wp2
  cases c₀
  simp_all [bodyPostS, results, Tryz.results75]
section
variable {P : Program}
theorem ret_cells {fn : Func} {p q : Tmp} {ty ty2 : TypeId} (h : fn.results = #[.cell p ty, .cell q ty2]) (tmps : Array Value) (w : World) (b c : Nat) (cs : List Value) (z : Value) (d : TypeDesc)
    (hp : tmps.getD p undef = .pointer (some ⟨b, 0, none⟩)) (hq : tmps.getD q undef = .pointer (some ⟨c, 0, none⟩)) (hr : w.rangeAt b 0 cs) (hu : P.underlying ty = some d) (hd : d.isRow = true) (hi : (P.info? ty).map (·.size) = some cs.length)
    (hz : (loadVar ty2 ⟨c, 0, none⟩).run P w = .ok z w) :
    (results fn tmps).run P w = .ok (.tuple #[.agg cs.toArray, z]) w := by
  have hp' : tmps[p]?.getD undef = .pointer (some ⟨b, 0, none⟩) := by simpa using hp
  have hq' : tmps[q]?.getD undef = .pointer (some ⟨c, 0, none⟩) := by simpa using hq
  simp [results, h, hp', hq', asAddr, run_loadVar_mid w b 0 ty cs d hr hu hd hi, hz, Result.andThen]
end
/-- The boxes of Make, and its error. -/
structure MX (w0 : World) (u v : Value) (w : World) : Prop where
  rx : RX w0 u v w
  e : w.heap[w0.heap.size + 3]? = some (.cells #[.int .i64 0] 22 (0, 0))
theorem MX.call {w0 w w' : World} {u v : Value} (h : MX w0 u v w) (hb : Below w.heap.size w w') : MX w0 u v w' :=
  ⟨h.rx.call hb, (hb.block _ (lt_of_block h.e)).trans h.e⟩
theorem MX.new (w0 : World) (u v : Value) : MX w0 u v ((((w0.alloc (.cells #[.bool false, u] 29)).alloc (.cells #[.bool false, v] 29)).alloc (.cells #[.bool false, .slice none 0 0, .bool false, .slice none 0 0] 31)).alloc (.cells #[.int .i64 0] 22)) := by
  refine ⟨(RX.new w0 u v).call ((Below.refl _ _).alloc (Nat.le_refl _) _), ?_⟩
  have := heap_alloc_new (((w0.alloc (.cells #[.bool false, u] 29)).alloc (.cells #[.bool false, v] 29)).alloc (.cells #[.bool false, .slice none 0 0, .bool false, .slice none 0 0] 31)) (.cells #[.int .i64 0] 22)
  simp only [World.size_alloc] at this
  exact this
set_option maxRecDepth 100000 in
set_option maxHeartbeats 4000000 in
theorem make_walk (V1 V2 : Value) (X Y : Nat) (w : World) (h1 : Wide 0 w V1 (X : Int)) (h2 : Wide 0 w V2 (Y : Int)) (hX : 0 < X) (hY : 0 < Y) (hx : (canon X).length ≤ 4000) (hy : (canon Y).length ≤ 4000) :
    Calls Tryz.prog 46 #[V1, V2] w fun e w' => ∃ V, e = .returned (.tuple #[V, .int .i64 0]) ∧ FracV w.heap.size w' V (X / Nat.gcd X Y) (Y / Nat.gcd X Y) ∧ Below w.heap.size w w' := by
  obtain ⟨a, n, ca, rfl, hA, -⟩ := wideN_inv h1
  obtain ⟨d, m, cd, rfl, hD, -⟩ := wideN_inv h2
  have hS0 := MX.new w (.slice a n ca) (.slice d m cd)
  have C1 := Lib.hid (fun w' (hb : Below w.heap.size w w') => check1_walk (.agg #[.bool false, .slice a n ca]) (X : Int) w' (wideN (hA.below hb) (fun _ _ _ => Nat.zero_le _)) (by rw [Int.natAbs_natCast]; omega))
  have C2 := Lib.hid (fun w' (hb : Below w.heap.size w w') => check1_walk (.agg #[.bool false, .slice d m cd]) (Y : Int) w' (wideN (hD.below hb) (fun _ _ _ => Nat.zero_le _)) (by rw [Int.natAbs_natCast]; omega))
  have RD := Lib.hid (fun w' (hb : Below w.heap.size w w') => reduce_walk (.agg #[.bool false, .slice a n ca]) (.agg #[.bool false, .slice d m cd]) X Y w' (wideN (hA.below hb) (fun _ _ _ => Nat.zero_le _)) (wideN (hD.below hb) (fun _ _ _ => Nat.zero_le _)) hX hY hx hy)
  have mp : 0 < m := by rw [← hD.len]; exact (canon_lenpos Y).2 hY
  have HS := Lib.hid hS0
  clear hA hD hS0
  generalize X / Nat.gcd X Y = p at *
  generalize Y / Nat.gcd X Y = q at *
  go_enter_defers Tryz.func46, Tryz.ntmps46
  go_wp2_with fail
  refine (C1.out _ HS.out.rx.below).mono ?_
  rintro e w1 ⟨rfl, hb⟩
  have hS1 := HS.out.call hb
  have HS1 := Lib.hid hS1
  have d0 := hS1.rx.y0
  have d1 := hS1.rx.y1
  clear hb hS1
  go_wp2_with (go_at_call 76; refine (want_walk _).mono ?_; rintro e w' ⟨rfl, rfl⟩)
  refine (C2.out _ HS1.out.rx.below).mono ?_
  rintro e w2 ⟨rfl, hb⟩
  have hS2 := HS1.out.call hb
  have HS2 := Lib.hid hS2
  have d0 := hS2.rx.y0
  have d1 := hS2.rx.y1
  clear hb hS2
  go_wp2_with (first | (go_at_call 76; refine (want_walk _).mono ?_; rintro e w' ⟨rfl, rfl⟩) | (go_at_call 78; refine (zero_walk _ _ _ _ _ mp).mono ?_; rintro e w3 ⟨rfl, hb⟩; have hS3 := HS2.out.call hb; have HS3 := Lib.hid hS3; have x0 := hS3.rx.x0; have x1 := hS3.rx.x1; have y0 := hS3.rx.y0; have y1 := hS3.rx.y1; clear hb hS3))
  refine (RD.out _ HS3.out.rx.below).mono ?_
  rintro e w4 ⟨V, rfl, ⟨aq, kq, cq, aq2, kq2, cq2, rfl, l1, l2, f1, f2⟩, hb⟩
  have hS4 := HS3.out.call hb
  have u0 := cellOf_some (hS4.rx.th 0 (by omega)).1
  have u1 := cellOf_some (hS4.rx.th 1 (by omega)).1
  have u2 := cellOf_some (hS4.rx.th 2 (by omega)).1
  have u3 := cellOf_some (hS4.rx.th 3 (by omega)).1
  have v0 := (hS4.rx.th 0 (by omega)).2
  have v1 := (hS4.rx.th 1 (by omega)).2
  have v2 := (hS4.rx.th 2 (by omega)).2
  have v3 := (hS4.rx.th 3 (by omega)).2
  have ce := cell_of_one hS4.e
  have fe := free_of_one hS4.e
  have HS4 := Lib.hid hS4
  have L1 := Lib.hid l1
  have L2 := Lib.hid l2
  clear hb hS4 l1 l2
  go_wp2_with fail
  have G : FracV w.heap.size ((w4.setCells (w.heap.size + 2) 0 [.bool false, .slice aq kq cq, .bool false, .slice aq2 kq2 cq2]).setCells (w.heap.size + 3) 0 [.int .i64 0]) (.agg #[.bool false, .slice aq kq cq, .bool false, .slice aq2 kq2 cq2]) p q ∧ Below w.heap.size w ((w4.setCells (w.heap.size + 2) 0 [.bool false, .slice aq kq cq, .bool false, .slice aq2 kq2 cq2]).setCells (w.heap.size + 3) 0 [.int .i64 0]) := by
    have z3 := HS3.out.rx.size
    have z4 := lt_of_block HS3.out.e
    exact ⟨⟨aq, kq, cq, aq2, kq2, cq2, rfl, (L1.out.setCells (fun b off e => by have := f1 b off e; omega) _ _).setCells (fun b off e => by have := f1 b off e; omega) _ _, (L2.out.setCells (fun b off e => by have := f2 b off e; omega) _ _).setCells (fun b off e => by have := f2 b off e; omega) _ _, fun b off e => by have := f1 b off e; omega, fun b off e => by have := f2 b off e; omega⟩, below_setCells _ (by omega) _ _ _ (below_setCells _ (by omega) _ _ _ HS4.out.rx.below)⟩
  have hr : World.rangeAt ((w4.setCells (w.heap.size + 2) 0 [.bool false, .slice aq kq cq, .bool false, .slice aq2 kq2 cq2]).setCells (w.heap.size + 3) 0 [.int .i64 0]) (w.heap.size + 2) 0 [.bool false, .slice aq kq cq, .bool false, .slice aq2 kq2 cq2] :=
    World.rangeAt_setCells_apart (World.rangeAt_setCells_same _ _ _ _ HS4.out.rx.th) _ _ _ (Or.inl (by omega))
  have hc : ((w4.setCells (w.heap.size + 2) 0 [.bool false, .slice aq kq cq, .bool false, .slice aq2 kq2 cq2]).setCells (w.heap.size + 3) 0 [.int .i64 0]).cell? ⟨w.heap.size + 3, 0, none⟩ = some (.int .i64 0) := by
    show (World.setCell _ _ _).cell? _ = _
    refine World.cell?_setCell_same' _ _ _ ?_
    show ((((w4.setCell _ _).setCell _ _).setCell _ _).setCell _ _).cell? _ |>.isSome
    rw [World.cell?_setCell_far _ _ _ _ (by simp), World.cell?_setCell_far _ _ _ _ (by simp), World.cell?_setCell_far _ _ _ _ (by simp), World.cell?_setCell_far _ _ _ _ (by simp), ce]
    rfl
  have hc2 : (((((w4.setCell ⟨w.heap.size + 1 + 1, 0, none⟩ (.bool false)).setCell ⟨w.heap.size + 1 + 1, 1, none⟩ (.slice aq kq cq)).setCell ⟨w.heap.size + 1 + 1, 2, none⟩ (.bool false)).setCell ⟨w.heap.size + 1 + 1, 3, none⟩ (.slice aq2 kq2 cq2)).setCell ⟨w.heap.size + 1 + 1 + 1, 0, none⟩ (.int .i64 0)).cell? ⟨w.heap.size + 3, 0, none⟩ = some (.int .i64 0) := hc
  refine leaves_cons (f := 75) (args := #[.pointer (some ⟨w.heap.size + 1 + 1 + 1, 0, none⟩)]) (by simp) (by simp [go_sem]) ?_
  refine (catch_idle ⟨w.heap.size + 1 + 1 + 1, 0, none⟩ _).mono ?_
  rintro e u' w'' ⟨rfl, rfl, rfl⟩
  refine ⟨_, ret_cells Tryz.results46 _ _ (w.heap.size + 2) (w.heap.size + 3) [.bool false, .slice aq kq cq, .bool false, .slice aq2 kq2 cq2] (.int .i64 0) _ rfl rfl hr Tryz.underlying31 rfl infoF (by simp [go_sem, hc2]), _, rfl, G⟩
end Wd
end Go.Proofs.YtmgehfakcnmdnaaGreatDoor
/-
  The walk of Jd of package moment.
-/
namespace Go.Proofs.YtmgehfakcnmdnaaGreatDoor
namespace Wd
open Go.RowKit Lw

/-- The numerator of a Julian date before it is reduced. -/
def jdN (t : Int) : Nat := (211813488000000000 + t).toNat
theorem jdN_int {t : Int} (h0 : -5000000000000000 ≤ t) : ((jdN t : Nat) : Int) = 211813488000000000 + t := by unfold jdN; omega
theorem len2 {n : Nat} (h : n < 18446744073709551616) : (canon n).length ≤ 2 := canon_len 2 n (by omega)
/-- What Jd returns. -/
def JdPost (w : World) (t : Int) (e : Ending) (w' : World) : Prop :=
  Below w.heap.size w w' ∧ ((¬ (-5000000000000000 ≤ t ∧ t ≤ 5000000000000000) ∧ e = .returned (.tuple #[.agg #[.bool false, .slice none 0 0, .bool false, .slice none 0 0], .int .i64 16])) ∨
    ((-5000000000000000 ≤ t ∧ t ≤ 5000000000000000) ∧ ∃ V, e = .returned (.tuple #[V, .int .i64 0]) ∧ FracV w.heap.size w' V (jdN t / Nat.gcd (jdN t) 86400000000) (86400000000 / Nat.gcd (jdN t) 86400000000)))
structure JX (w0 : World) (w : World) : Prop where
  below : Below w0.heap.size w0 w
  th : w.there w0.heap.size 0 4
theorem JX.call {w0 w w' : World} (h : JX w0 w) (hb : Below w.heap.size w w') (hs : w0.heap.size + 1 ≤ w.heap.size) : JX w0 w' := ⟨below_then h.below hb, there_below h.th hb (by omega)⟩
set_option maxRecDepth 100000 in
set_option maxHeartbeats 4000000 in
theorem jd_walk (t : Int) (w : World) (h0 : -9223372036854775808 ≤ t) (h1 : t < 9223372036854775808) :
    Calls Tryz.prog 13 #[.int .i64 t] w (JdPost w t) := by
  have b0 := (Below.refl w.heap.size w).alloc (Nat.le_refl _) (.cells #[.bool false, .slice none 0 0, .bool false, .slice none 0 0] 31)
  have t0 := there_new w #[.bool false, .slice none 0 0, .bool false, .slice none 0 0] 31 4 (by simp)
  have J0 := Lib.hid (JX.mk b0 t0)
  have rr := rangeAt_new w [.bool false, .slice none 0 0, .bool false, .slice none 0 0] 31
  have RR := Lib.hid rr
  clear b0 t0 rr
  by_cases hlo : t < -5000000000000000
  · have hlo' : ¬ (-5000000000000000 ≤ t ∧ t ≤ 5000000000000000) := by omega
    have Hlo := Lib.hid hlo'
    clear hlo'
    go_enter Tryz.func13, Tryz.ntmps13
    go_wp2_with fail
    exact bodyPost_ret (ret_cell_tmp Tryz.results13 _ _ w.heap.size [.bool false, .slice none 0 0, .bool false, .slice none 0 0] _ rfl RR.out Tryz.underlying31 rfl infoF) rfl ⟨J0.out.below, .inl ⟨Hlo.out, rfl⟩⟩
  · by_cases hhi : 5000000000000000 < t
    · have hlo' : ¬ (-5000000000000000 ≤ t ∧ t ≤ 5000000000000000) := by omega
      have Hlo := Lib.hid hlo'
      clear hlo'
      go_enter Tryz.func13, Tryz.ntmps13
      go_wp2_with fail
      exact bodyPost_ret (ret_cell_tmp Tryz.results13 _ _ w.heap.size [.bool false, .slice none 0 0, .bool false, .slice none 0 0] _ rfl RR.out Tryz.underlying31 rfl infoF) rfl ⟨J0.out.below, .inl ⟨Hlo.out, rfl⟩⟩
    · have hin : -5000000000000000 ≤ t ∧ t ≤ 5000000000000000 := by omega
      have Hin := Lib.hid hin
      have F1 := Lib.hid (fun w => from_walk 2451545 w (by omega) (by omega))
      have F2 := Lib.hid (fun w => from_walk 86400000000 w (by omega) (by omega))
      have F3 := Lib.hid (fun w => from_walk t w h0 h1)
      clear hin
      go_enter Tryz.func13, Tryz.ntmps13
      go_wp2_with fail
      refine (F1.out _).mono ?_
      rintro e w1 ⟨V1, rfl, hV1, hb1⟩
      have J1 := Lib.hid (J0.out.call hb1 (by simp))
      have HV1 := Lib.hid hV1
      have z1 := hb1.size
      simp only [World.size_alloc] at z1
      clear hV1 hb1
      go_wp2_with fail
      refine (F2.out _).mono ?_
      rintro e w2 ⟨V2, rfl, hV2, hb2⟩
      have J2 := Lib.hid (J1.out.call hb2 (by omega))
      have z2 := hb2.size
      have MW := Lib.hid (mul_walk V1 V2 2451545 86400000000 w2 ((HV1.out.below hb2).mono (Nat.zero_le _)) (hV2.mono (Nat.zero_le _)) (by have := len2 (n := (2451545 : Int).natAbs) (by decide); have := len2 (n := (86400000000 : Int).natAbs) (by decide); omega))
      clear hb2 hV2
      go_wp2_with fail
      refine MW.out.mono ?_
      rintro e w3 ⟨V3, rfl, hV3, hb3⟩
      have hV3 : Wide w2.heap.size w3 V3 ((211813488000000000 : Nat) : Int) := hV3
      obtain ⟨a3, k3, c3, rfl, l3, f3⟩ := wideN_inv hV3
      have z3 := hb3.size
      have J3 := Lib.hid ((J2.out.call hb3 (by omega)).call ((Below.refl _ w3).alloc (Nat.le_refl _) (.cells #[.bool false, .slice a3 k3 c3] 29)) (by omega))
      have n0 : (w3.alloc (.cells #[.bool false, .slice a3 k3 c3] 29)).cell? ⟨w3.heap.size, 0, none⟩ = some (.bool false) := rangeAt_new w3 [.bool false, .slice a3 k3 c3] 29 0 _ rfl
      have n1 : (w3.alloc (.cells #[.bool false, .slice a3 k3 c3] 29)).cell? ⟨w3.heap.size, 1, none⟩ = some (.slice a3 k3 c3) := rangeAt_new w3 [.bool false, .slice a3 k3 c3] 29 1 _ rfl
      have tn := there_new w3 #[.bool false, .slice a3 k3 c3] 29 2 (by simp)
      have L3 := Lib.hid (l3.below ((Below.refl _ w3).alloc (Nat.le_refl _) (.cells #[.bool false, .slice a3 k3 c3] 29)))
      have sz4 : (w3.alloc (.cells #[.bool false, .slice a3 k3 c3] 29)).heap.size = w3.heap.size + 1 := by simp
      have TN := Lib.hid tn
      clear MW hV3 hb3 l3 f3 J2 HV1 J1 J0 RR F1 tn
      go_wp2_with fail
      generalize w3.alloc (.cells #[.bool false, .slice a3 k3 c3] 29) = W4 at *
      have AW := Lib.hid (fun w5 V5 (hb : Below W4.heap.size W4 w5) (hV : Wide 0 w5 V5 t) => addW_walk (.agg #[.bool false, .slice a3 k3 c3]) V5 ((211813488000000000 : Nat) : Int) t w5 (wideN (L3.out.below hb) (fun _ _ _ => Nat.zero_le _)) hV (by have := Hin.out; omega) (by have := len2 (n := 211813488000000000) (by decide); rw [Int.natAbs_natCast]; omega))
      go_region_with (first | (go_at_call 44; refine (F3.out _).mono ?_; rintro e w5 ⟨V5, rfl, hV5, hb5⟩; have m0 := (hb5.cell (p := ⟨w3.heap.size, 0, none⟩) (by show w3.heap.size < W4.heap.size; omega)).trans n0; have m1 := (hb5.cell (p := ⟨w3.heap.size, 1, none⟩) (by show w3.heap.size < W4.heap.size; omega)).trans n1; have HB5 := Lib.hid (show Below W4.heap.size W4 w5 from ⟨hb5.os, hb5.tape, hb5.output, hb5.size, hb5.block⟩); have HV5 := Lib.hid (hV5.mono (Nat.zero_le _)); clear hV5 hb5) | (go_at_call 45; refine (AW.out _ _ HB5.out HV5.out).mono ?_; rintro e w6 ⟨V6, rfl, hV6, hb6⟩; have hV6 : Wide w5.heap.size w6 V6 ((jdN t : Nat) : Int) := (by rw [jdN_int Hin.out.1]; exact hV6); obtain ⟨a6, k6, c6, rfl, l6, f6⟩ := wideN_inv hV6; have hb46 := below_then HB5.out hb6; have tn6 := there_below TN.out hb46 (by omega); have q0 := cellOf_some (tn6 0 (by omega)).1; have q1 := cellOf_some (tn6 1 (by omega)).1; have r0 := (tn6 0 (by omega)).2; have r1 := (tn6 1 (by omega)).2; have HB6 := Lib.hid hb46; have L6 := Lib.hid l6; have F6 := Lib.hid f6; have TN6 := Lib.hid tn6; have s56 := HB5.out.size; clear hV6 hb6 l6 f6 hb46 tn6))
      all_goals
        have x0 : ((w6.setCell ⟨w3.heap.size, 0, none⟩ (.bool false)).setCell ⟨w3.heap.size, 1, none⟩ (.slice a6 k6 c6)).cell? ⟨w3.heap.size, 0, none⟩ = some (.bool false) := (World.cell?_setCell_other _ _ _ _ (by simp)).trans (World.cell?_setCell_same' _ _ _ (by rw [q0]; rfl))
        have x1 : ((w6.setCell ⟨w3.heap.size, 0, none⟩ (.bool false)).setCell ⟨w3.heap.size, 1, none⟩ (.slice a6 k6 c6)).cell? ⟨w3.heap.size, 1, none⟩ = some (.slice a6 k6 c6) := World.cell?_setCell_same' _ _ _ (by rw [World.cell?_setCell_other _ _ _ _ (by simp), q1]; rfl)
        have L7 := Lib.hid ((L6.out.grown (grownBy_set2 w6 w3.heap.size 0 (.bool false)) (fun b off e => by have := F6.out b off e; omega)).grown (grownBy_set2 _ w3.heap.size 1 (.slice a6 k6 c6)) (fun b off e => by have := F6.out b off e; omega))
        have s6 := HB6.out.size
        have J6 := J3.out.call HB6.out (by omega)
        have J7 := Lib.hid (JX.mk ((J6.below.setCell (p := ⟨w3.heap.size, 0, none⟩) (by show w.heap.size ≤ w3.heap.size; omega) (.bool false)).setCell (p := ⟨w3.heap.size, 1, none⟩) (by show w.heap.size ≤ w3.heap.size; omega) (.slice a6 k6 c6)) (there_setCell (there_setCell J6.th _ _) _ _))
        have s7 : ((w6.setCell ⟨w3.heap.size, 0, none⟩ (.bool false)).setCell ⟨w3.heap.size, 1, none⟩ (.slice a6 k6 c6)).heap.size = w6.heap.size := by simp
        clear J6 q0 q1 r0 r1 TN6 L6 F6 J3 AW HV5 L3 n0 n1 TN
        go_wp2_with fail
        generalize ((w6.setCell ⟨w3.heap.size, 0, none⟩ (.bool false)).setCell ⟨w3.heap.size, 1, none⟩ (.slice a6 k6 c6)) = W7 at *
        have jp : 0 < jdN t := by have := jdN_int Hin.out.1; have := Hin.out; omega
        have MK := Lib.hid (fun w8 V8 (hb : Below W7.heap.size W7 w8) (hV : Wide 0 w8 V8 ((86400000000 : Nat) : Int)) => make_walk (.agg #[.bool false, .slice a6 k6 c6]) V8 (jdN t) 86400000000 w8 (wideN (L7.out.below hb) (fun _ _ _ => Nat.zero_le _)) hV jp (by omega) (by have := len2 (n := jdN t) (by have := jdN_int Hin.out.1; have := Hin.out; omega); omega) (by have := len2 (n := 86400000000) (by decide); omega))
        go_region_with (first | (go_at_call 44; refine (F2.out _).mono ?_; rintro e w8 ⟨V8, rfl, hV8, hb8⟩; have y0 := (hb8.cell (p := ⟨w3.heap.size, 0, none⟩) (by show w3.heap.size < W7.heap.size; omega)).trans x0; have y1 := (hb8.cell (p := ⟨w3.heap.size, 1, none⟩) (by show w3.heap.size < W7.heap.size; omega)).trans x1; have HB8 := Lib.hid (show Below W7.heap.size W7 w8 from ⟨hb8.os, hb8.tape, hb8.output, hb8.size, hb8.block⟩); have HV8 := Lib.hid (hV8.mono (Nat.zero_le _)); clear hV8 hb8) | (go_at_call 46; refine (MK.out _ _ HB8.out HV8.out).mono ?_; rintro e w9 ⟨V9, rfl, hV9, hb9⟩; obtain ⟨aq, kq, cq, aq2, kq2, cq2, rfl, m1, m2, p1, p2⟩ := hV9; have J9 := (J7.out.call HB8.out (by omega)).call hb9 (by have := HB8.out.size; omega); have u0 := cellOf_some (J9.th 0 (by omega)).1; have u1 := cellOf_some (J9.th 1 (by omega)).1; have u2 := cellOf_some (J9.th 2 (by omega)).1; have u3 := cellOf_some (J9.th 3 (by omega)).1; have v0 := (J9.th 0 (by omega)).2; have v1 := (J9.th 1 (by omega)).2; have v2 := (J9.th 2 (by omega)).2; have v3 := (J9.th 3 (by omega)).2; have M1 := Lib.hid m1; have M2 := Lib.hid m2; have P1 := Lib.hid p1; have P2 := Lib.hid p2; have J9 := Lib.hid J9; have s8 := HB8.out.size; clear m1 m2 p1 p2 hb9))
        all_goals
          have G : FracV w.heap.size (w9.setCells w.heap.size 0 [.bool false, .slice aq kq cq, .bool false, .slice aq2 kq2 cq2]) (.agg #[.bool false, .slice aq kq cq, .bool false, .slice aq2 kq2 cq2]) (jdN t / Nat.gcd (jdN t) 86400000000) (86400000000 / Nat.gcd (jdN t) 86400000000) ∧ Below w.heap.size w (w9.setCells w.heap.size 0 [.bool false, .slice aq kq cq, .bool false, .slice aq2 kq2 cq2]) :=
            ⟨⟨aq, kq, cq, aq2, kq2, cq2, rfl, M1.out.setCells (fun b off e => by have := P1.out b off e; omega) _ _, M2.out.setCells (fun b off e => by have := P2.out b off e; omega) _ _, fun b off e => by have := P1.out b off e; omega, fun b off e => by have := P2.out b off e; omega⟩, below_setCells _ (Nat.le_refl _) _ _ _ J9.out.below⟩
          have hr := World.rangeAt_setCells_same w9 w.heap.size 0 [.bool false, .slice aq kq cq, .bool false, .slice aq2 kq2 cq2] J9.out.th
          have GG := Lib.hid (And.intro hr G)
          clear hr G u0 u1 u2 u3 v0 v1 v2 v3
          go_wp2_with fail
          refine bodyPost_ret (ret_cell_tmp Tryz.results13 _ _ w.heap.size [.bool false, .slice aq kq cq, .bool false, .slice aq2 kq2 cq2] _ rfl GG.out.1 Tryz.underlying31 rfl infoF) rfl ⟨GG.out.2.2, .inr ⟨Hin.out, _, rfl, GG.out.2.1⟩⟩
end Wd
end Go.Proofs.YtmgehfakcnmdnaaGreatDoor
/-
  The reference's whole numbers: trim.
-/
namespace Go.Proofs.YtmgehfakcnmdnaaGreatDoor
namespace Wd
open Go.RowKit Lw

/-- What a call returns as a row of its own: never nil. -/
def RowPost (w : World) (L : List Nat) (e : Ending) (w' : World) : Prop :=
  ∃ g cp, e = .returned (.slice (some ⟨g, 0, none⟩) L.length cp) ∧ OwnL w' w.heap.size (.slice (some ⟨g, 0, none⟩) L.length cp) L ∧ Lim w' (some ⟨g, 0, none⟩) L.length cp L ∧ w.heap.size ≤ g ∧ g < w'.heap.size ∧ Below w.heap.size w w'
theorem RowPost.of {w w' : World} {V : Value} {L : List Nat} (h : OwnL w' w.heap.size V L) (hne : V ≠ .slice none 0 0) (hl : Lb L) (hs : L.length ≤ 1000000) (hb : Below w.heap.size w w') : RowPost w L (.returned V) w' := by
  rcases h.2 with ⟨h0, -⟩ | ⟨g, cap, cur, rfl, hg, hh, h1, h2, h3, h4⟩
  · exact absurd h0 hne
  · exact ⟨g, cap, rfl, h, Row.lim0 ⟨cur, hh, by simpa using h4⟩ hl h1 hs, hg, lt_of_block hh, hb⟩
set_option maxRecDepth 100000 in
set_option maxHeartbeats 1000000 in
theorem rtrim_row (l : List Nat) (b off : Nat) (n cap : Nat) (w : World) (hL : Lim w (some ⟨b, off, none⟩) n cap l) (hb : b < w.heap.size) :
    Calls Tryz.prog 87 #[.slice (some ⟨b, off, none⟩) n cap] w (RowPost w (canon (val l))) := by
  obtain ⟨i0', hi, hzz⟩ := Option.map_eq_some_iff.1 info4
  simp only [Prod.mk.injEq] at hzz
  obtain ⟨hz0, hz1, hz2⟩ := hzz
  have HL := Lib.hid hL
  have hlen := hL.len
  have hcp := hL.cp
  have hsm := hL.sm
  clear hL
  go_enter Tryz.func87, Tryz.ntmps87
  go_wp2
  go_loopw [3] (fun i wr => ∃ k : Nat, k ≤ n ∧ i = .int .i64 k ∧ wr = w ∧ ∀ j (h : j < l.length), k ≤ j → l[j] = 0) (fun i _ => (intOf i).toNat)
  case atStart => exact ⟨n, Nat.le_refl _, rfl, rfl, fun j h g => by omega⟩
  case round =>
    obtain ⟨k, hk, rfl, rfl, hz⟩ := hrel
    have ht := take_run (some ⟨b, off, none⟩) n cap k (by omega)
    have fin : (k = 0 ∨ ∃ h : k - 1 < l.length, l[k - 1] ≠ 0) → Lim wr (some ⟨b, off, none⟩) k cap (canon (val l)) := fun g => by
      rw [← cut_canon HL.out.lb (by omega) hz g]
      exact HL.out.take hk
    by_cases kz : ∃ h : 0 < k, l[k - 1]'(by omega) = 0
    · obtain ⟨k0, kz⟩ := kz
      have hz' : ∀ j (h : j < l.length), k - 1 ≤ j → l[j] = 0 := fun j h g => by
        by_cases e : j = k - 1
        · subst e; exact kz
        · exact hz j h (by omega)
      have Hz := Lib.hid hz'
      have ce := HL.out.cell (k := k - 1) (by omega)
      rw [kz] at ce
      have e1 : IntKind.i64.wrap ((k : Int) - 1) = ((k - 1 : Nat) : Int) := by rw [IntWalk.i64_in _ (by omega)]; omega
      have k1 : (0 : Int) < (k : Int) := by omega
      have k2 : ((k - 1 : Nat) : Int) < (n : Int) := by omega
      clear hz hz' kz fin ht
      go_wp2
      go_roundw
      case rel => exact ⟨k - 1, by omega, by first | rfl | trivial, by first | rfl | trivial, Hz.out⟩
      case measure => simp [intOf]; omega
    · have hl := fin (by
        rcases Nat.eq_zero_or_pos k with h | h
        · exact Or.inl h
        · exact Or.inr ⟨by omega, fun e => kz ⟨h, e⟩⟩)
      have hkl := hl.len
      have HO := World.ownsRow_made wr #[] 0 (base := wr.heap.size) (e := 91) (size := 1) (Nat.le_refl _) (by unfold maxLen; omega) rfl
      have hB := (Below.refl wr.heap.size wr).alloc (Nat.le_refl _) (.cells #[] 91)
      have hsrc : ∀ j u, (us (canon (val l)))[j]? = some u → (wr.alloc (.cells #[] 91)).cell? ((⟨b, off, none⟩ : Addr).add j) = some u := fun j u hu => by
        have hj : j < (canon (val l)).length := by have := (List.getElem?_eq_some_iff.1 hu).1; simpa [us] using this
        have e : (⟨b, off, none⟩ : Addr).add j = ⟨b, off + j, none⟩ := by simp [Addr.add]
        rw [e, hB.cell (p := ⟨b, off + j, none⟩) hb, hl.cell hj]
        simpa [us, hj] using hu
      have HB := Lib.hid hB
      have HSrc := Lib.hid hsrc
      have HO := Lib.hid HO
      clear hz fin hB hsrc
      by_cases k0 : k = 0
      · subst k0
        go_wp2_with (at_builtin; refine wpList_append_own _ rfl (.tmp 18) (.tmp 21) 27 rfl wr.heap.size 91 i0' (.int .u32 0) 1 4 Tryz.underlying27 hi hz0 hz1 hz2 rfl (by decide) _ _ _ rfl HO.out ⟨b, off, none⟩ _ _ (us (canon (val l))) rfl (by rw [us_len, hkl, Nat.mul_one]) HSrc.out (us_one _) (by unfold maxLen; omega) (by omega) (by simp) ?_)
        intro v' w1 hown' hgrow hnn
        have hne : v' ≠ .slice none 0 0 := hnn
        have hB1 := HB.out.grown hgrow (by simp) (fun k e => (HO.out.lt k e).1)
        have hO1 : OwnL w1 wr.heap.size v' (canon (val l)) := by
          show w1.ownsRow _ _ 1 v' (canon (val l)).length (us (canon (val l)))
          rw [hkl]
          simpa using hown'
        have Fin := Lib.hid (RowPost.of hO1 hne (lb_canon (val l)) (by omega) hB1)
        clear hown' hgrow hB1 hO1 hne hnn
        go_wp2
        refine bodyPost_ret (results_tmp rfl _ _ _) rfl ?_
        exact Fin.out
      · have kz' : ¬ ((l[k - 1]'(by omega) : Nat) : Int) = 0 := fun e => kz ⟨by omega, by omega⟩
        have ce := HL.out.cell (k := k - 1) (by omega)
        have e1 : IntKind.i64.wrap ((k : Int) - 1) = ((k - 1 : Nat) : Int) := by rw [IntWalk.i64_in _ (by omega)]; omega
        have k1 : (0 : Int) < (k : Int) := by omega
        have k2 : ((k - 1 : Nat) : Int) < (n : Int) := by omega
        clear kz
        go_wp2_with (at_builtin; refine wpList_append_own _ rfl (.tmp 18) (.tmp 21) 27 rfl wr.heap.size 91 i0' (.int .u32 0) 1 4 Tryz.underlying27 hi hz0 hz1 hz2 rfl (by decide) _ _ _ rfl HO.out ⟨b, off, none⟩ _ _ (us (canon (val l))) rfl (by rw [us_len, hkl, Nat.mul_one]) HSrc.out (us_one _) (by unfold maxLen; omega) (by omega) (by simp) ?_)
        intro v' w1 hown' hgrow hnn
        have hne : v' ≠ .slice none 0 0 := hnn
        have hB1 := HB.out.grown hgrow (by simp) (fun k e => (HO.out.lt k e).1)
        have hO1 : OwnL w1 wr.heap.size v' (canon (val l)) := by
          show w1.ownsRow _ _ 1 v' (canon (val l)).length (us (canon (val l)))
          rw [hkl]
          simpa using hown'
        have Fin := Lib.hid (RowPost.of hO1 hne (lb_canon (val l)) (by omega) hB1)
        clear hown' hgrow hB1 hO1 hne hnn
        go_wp2
        refine bodyPost_ret (results_tmp rfl _ _ _) rfl ?_
        exact Fin.out
theorem rtrim_walk (l : List Nat) (b off : Nat) (n cap : Nat) (w : World) (hL : Lim w (some ⟨b, off, none⟩) n cap l) (hb : b < w.heap.size) :
    Calls Tryz.prog 87 #[.slice (some ⟨b, off, none⟩) n cap] w fun e w' => ∃ V, e = .returned V ∧ OwnL w' w.heap.size V (canon (val l)) ∧ Below w.heap.size w w' :=
  (rtrim_row l b off n cap w hL hb).mono fun e w' ⟨g, cp, h1, h2, _, _, _, h3⟩ => ⟨_, h1, h2, h3⟩
set_option maxRecDepth 100000 in
set_option maxHeartbeats 1000000 in
theorem rtrim_nil (w : World) : Calls Tryz.prog 87 #[.slice none 0 0] w (RowPost w []) := by
  obtain ⟨i0', hi, hzz⟩ := Option.map_eq_some_iff.1 info4
  simp only [Prod.mk.injEq] at hzz
  obtain ⟨hz0, hz1, hz2⟩ := hzz
  have HO := Lib.hid (World.ownsRow_made w #[] 0 (base := w.heap.size) (e := 91) (size := 1) (Nat.le_refl _) (by unfold maxLen; omega) rfl)
  have HB := Lib.hid ((Below.refl w.heap.size w).alloc (Nat.le_refl _) (.cells #[] 91))
  go_enter Tryz.func87, Tryz.ntmps87
  go_wp2
  go_loopw [3] (fun i wr => i = .int .i64 0 ∧ wr = w) (fun i _ => (intOf i).toNat)
  case atStart => exact ⟨rfl, rfl⟩
  case round =>
    obtain ⟨rfl, rfl⟩ := hrel
    go_wp2_with (at_builtin; refine wpList_append_own_none rfl (.tmp 18) (.tmp 21) 27 rfl wr.heap.size 91 i0' 1 Tryz.underlying27 hi _ _ _ rfl HO.out rfl ?_)
    refine bodyPost_ret (results_tmp rfl _ _ _) rfl ?_
    exact RowPost.of (L := []) HO.out (by intro e; cases e) (by intro x hx; cases hx) (by simp) HB.out
/-- A slice that is nil, or lies at a block that is there. -/
def Adr (w : World) (A : Option Addr) (cap : Nat) : Prop := (∃ b off, A = some ⟨b, off, none⟩ ∧ b < w.heap.size) ∨ (A = none ∧ cap = 0)
theorem Adr.below {w w' : World} {A : Option Addr} {cap B : Nat} (h : Adr w A cap) (hb : Below B w w') : Adr w' A cap := by
  rcases h with ⟨b, off, h1, h2⟩ | h
  · exact Or.inl ⟨b, off, h1, Nat.lt_of_lt_of_le h2 hb.size⟩
  · exact Or.inr h
theorem rtrim_any (l : List Nat) (A : Option Addr) (n cap : Nat) (w : World) (hL : Lim w A n cap l) (hA : Adr w A cap) : Calls Tryz.prog 87 #[.slice A n cap] w (RowPost w (canon (val l))) := by
  rcases hA with ⟨b, off, rfl, hb⟩ | ⟨rfl, rfl⟩
  · exact rtrim_row l b off n cap w hL hb
  · obtain rfl : n = 0 := by
      rcases Nat.eq_zero_or_pos n with h | h
      · exact h
      · obtain ⟨b, off, e, -⟩ := hL.row h; cases e
    obtain rfl := List.length_eq_zero_iff.1 hL.len
    rw [show canon (val []) = [] by rw [val]; exact canon_zero]
    exact rtrim_nil w
end Wd
end Go.Proofs.YtmgehfakcnmdnaaGreatDoor
/-
  The reference's whole numbers: made, From, Check, both.
-/
namespace Go.Proofs.YtmgehfakcnmdnaaGreatDoor
namespace Wd
open Go.RowKit Lw

set_option maxRecDepth 100000 in
set_option maxHeartbeats 1000000 in
theorem rmade_any (neg : Bool) (l : List Nat) (A : Option Addr) (n cap : Nat) (w : World) (hL : Lim w A n cap l) (hb : Adr w A cap) (hm : (canon (val l)).length ≤ 4096) :
    Calls Tryz.prog 58 #[.bool neg, .slice A n cap] w (NumPost w (sgn neg (val l))) := by
  have b0 := (Below.refl w.heap.size w).alloc (Nat.le_refl _) (.cells #[.bool false, .slice none 0 0] 29)
  have t0 := there_new w #[.bool false, .slice none 0 0] 29 2 (by simp)
  have tw := rtrim_any l A n cap (w.alloc (.cells #[.bool false, .slice none 0 0] 29)) (hL.below b0) (hb.below b0)
  have TW := Lib.hid tw
  have B0 := Lib.hid b0
  have T0 := Lib.hid t0
  have hlb := lb_canon (val l)
  clear tw b0 t0 hL
  go_enter Tryz.func58, Tryz.ntmps58
  go_wp2_with fail
  refine TW.out.mono ?_
  rintro e w1 ⟨gg, c, rfl, -, hL1, hgg, -, hb1⟩
  obtain ⟨a, ha⟩ : ∃ a : Option Addr, a = some ⟨gg, 0, none⟩ := ⟨_, rfl⟩
  have hf : ∀ b off, a = some ⟨b, off, none⟩ → (w.alloc (.cells #[.bool false, .slice none 0 0] 29)).heap.size ≤ b := fun b off e => by rw [ha] at e; cases e; exact hgg
  rw [← ha] at hL1 ⊢
  clear hgg ha
  have t1 := there_below T0.out hb1 (by simp)
  have q0 := cellOf_some (t1 0 (by omega)).1
  have q1 := cellOf_some (t1 1 (by omega)).1
  have r0 := (t1 0 (by omega)).2
  have r1 := (t1 1 (by omega)).2
  have HP := made_pick neg _ l rfl
  have HB1 := Lib.hid (below_then B0.out hb1)
  have L1 := Lib.hid hL1
  have T1 := Lib.hid t1
  have hz := sgn_abs neg (val l)
  generalize hk : (canon (val l)).length = k at *
  have G : ∀ B : Bool, B = decide (sgn neg (val l) < 0) → World.rangeAt (w1.setCells w.heap.size 0 [.bool B, .slice a k c]) w.heap.size 0 [.bool B, .slice a k c] ∧ NumPost w (sgn neg (val l)) (.returned (.tuple #[.agg #[.bool B, .slice a k c], .int .i64 0])) (w1.setCells w.heap.size 0 [.bool B, .slice a k c]) := fun B hB => by
    simp only [World.size_alloc] at hf
    refine ⟨World.rangeAt_setCells_same _ _ _ _ T1.out, _, rfl, ⟨a, k, c, by rw [hB], ?_, fun b off e => by have := hf b off e; omega⟩, below_setCells _ (Nat.le_refl _) _ _ _ HB1.out⟩
    rw [hz]
    exact L1.out.setCells (fun b off e => by have := hf b off e; omega) _ _
  have GG := Lib.hid G
  have HP := Lib.hid HP
  have k2 : ¬ (4096 : Int) < (k : Int) := by omega
  clear G hb1 hL1 t1 hz hf
  go_wp2_with fail
  · have e : decide (0 < k) = decide (sgn neg (val l) < 0) := by
      rw [← HP.out, if_pos ‹_›]
      simp
    exact bodyPost_ret (ret_cell_tmp Tryz.results58 _ _ w.heap.size [.bool _, .slice _ _ _] _ rfl (GG.out _ e).1 Tryz.underlying29 rfl infoW) rfl (GG.out _ e).2
  · have e : false = decide (sgn neg (val l) < 0) := by
      rw [← HP.out, if_neg (by simp_all)]
    exact bodyPost_ret (ret_cell_tmp Tryz.results58 _ _ w.heap.size [.bool _, .slice _ _ _] _ rfl (GG.out _ e).1 Tryz.underlying29 rfl infoW) rfl (GG.out _ e).2
theorem rmade_walk (neg : Bool) (l : List Nat) (b off n cap : Nat) (w : World) (hL : Lim w (some ⟨b, off, none⟩) n cap l) (hb : b < w.heap.size) (hm : (canon (val l)).length ≤ 4096) :
    Calls Tryz.prog 58 #[.bool neg, .slice (some ⟨b, off, none⟩) n cap] w (NumPost w (sgn neg (val l))) :=
  rmade_any neg l _ n cap w hL (Or.inl ⟨b, off, rfl, hb⟩) hm
set_option maxRecDepth 100000 in
set_option maxHeartbeats 2000000 in
theorem rcheck_walk (V : Value) (z : Int) (w : World) (hV : Wide 0 w V z) (hz : (canon z.natAbs).length ≤ 4096) :
    Calls Tryz.prog 53 #[V] w fun e w' => e = .returned (.int .i64 0) ∧ Below w.heap.size w w' := by
  obtain ⟨a, m, c, rfl, hL, -⟩ := hV
  have hlen := hL.len
  have hB := (Below.refl w.heap.size w).alloc (Nat.le_refl _) (.cells #[.bool (decide (z < 0)), .slice a m c] 29)
  have HB := Lib.hid hB
  have HL := Lib.hid (hL.below hB)
  have m1 : ¬ (4096 : Int) < (m : Int) := by omega
  clear hL hB
  by_cases m0 : m = 0
  · subst m0
    have zz : decide (z < 0) = false := by
      have := (canon_spec z.natAbs).2.2.1.1 (List.length_eq_zero_iff.1 hlen)
      exact decide_eq_false (by omega)
    rw [zz] at HB HL ⊢
    clear zz m1
    go_enter Tryz.func53, Tryz.ntmps53
    go_wp2_with fail
    exact bodyPost_ret (results_tmp rfl _ _ _) rfl ⟨rfl, HB.out⟩
  · obtain ⟨b, off, rfl, -, -⟩ := HL.out.row (by omega)
    have cl := HL.out.cell (k := m - 1) (by omega)
    have kz := canon_last hlen (by omega)
    generalize (canon z.natAbs)[m - 1]'(by omega) = q at kz cl
    have q0 : ¬ (q : Int) = 0 := by omega
    have e1 : IntKind.i64.wrap ((m : Int) - 1) = ((m - 1 : Nat) : Int) := by
      have := hlen
      rw [IntWalk.i64_in _ (by omega)]; omega
    have k1 : (0 : Int) < (m : Int) := by omega
    have k2 : ((m - 1 : Nat) : Int) < (m : Int) := by omega
    have k3 : ¬ (m : Int) = 0 := by omega
    go_enter Tryz.func53, Tryz.ntmps53
    go_wp2_with fail
    exact bodyPost_ret (results_tmp rfl _ _ _) rfl ⟨rfl, HB.out⟩
set_option maxRecDepth 100000 in
set_option maxHeartbeats 2000000 in
theorem rboth_walk (V1 V2 : Value) (z1 z2 : Int) (w : World) (h1 : Wide 0 w V1 z1) (h2 : Wide 0 w V2 z2) (hz1 : (canon z1.natAbs).length ≤ 4096) (hz2 : (canon z2.natAbs).length ≤ 4096) :
    Calls Tryz.prog 80 #[V1, V2] w fun e w' => e = .returned (.int .i64 0) ∧ Below w.heap.size w w' := by
  have C1 := Lib.hid (fun w' (hb : Below w.heap.size w w') => rcheck_walk V1 z1 w' (h1.below hb) hz1)
  have C2 := Lib.hid (fun w' (hb : Below w.heap.size w w') => rcheck_walk V2 z2 w' (h2.below hb) hz2)
  obtain ⟨a, n, ca, rfl, hA, -⟩ := h1
  obtain ⟨d, m, cd, rfl, hD, -⟩ := h2
  have b0 := ((Below.refl w.heap.size w).alloc (Nat.le_refl _) (.cells #[.bool (decide (z1 < 0)), .slice a n ca] 29)).alloc (by simp) (.cells #[.bool (decide (z2 < 0)), .slice d m cd] 29)
  have r2 := rangeAt_new (w.alloc (.cells #[.bool (decide (z1 < 0)), .slice a n ca] 29)) [.bool (decide (z2 < 0)), .slice d m cd] 29
  rw [World.size_alloc] at r2
  have B0 := Lib.hid b0
  have R2 := Lib.hid r2
  clear hA hD b0 r2
  generalize decide (z1 < 0) = n1 at *
  generalize decide (z2 < 0) = n2 at *
  go_enter Tryz.func80, Tryz.ntmps80
  go_wp2_with fail
  refine (C1.out _ B0.out).mono ?_
  rintro e w1 ⟨rfl, hb⟩
  have d0 := (hb.cell (p := ⟨w.heap.size + 1, 0, none⟩) (by simp)).trans (R2.out 0 _ rfl)
  have d1 := (hb.cell (p := ⟨w.heap.size + 1, 1, none⟩) (by simp)).trans (R2.out 1 _ rfl)
  have B1 := Lib.hid (below_then B0.out hb)
  clear hb
  go_wp2_with fail
  refine (C2.out _ B1.out).mono ?_
  rintro e w2 ⟨rfl, hb⟩
  have B2 := Lib.hid (below_then B1.out hb)
  clear hb
  go_wp2_with fail
  exact bodyPost_ret (results_tmp rfl _ _ _) rfl ⟨rfl, B2.out⟩
end Wd
end Go.Proofs.YtmgehfakcnmdnaaGreatDoor
/-
  The reference's whole numbers: From.
-/
namespace Go.Proofs.YtmgehfakcnmdnaaGreatDoor
namespace Wd
open Go.RowKit Lw

set_option maxRecDepth 100000 in
set_option maxHeartbeats 1000000 in
theorem rfrom_walk (t : Int) (w : World) (h0 : -9223372036854775808 ≤ t) (h1 : t < 9223372036854775808) :
    Calls Tryz.prog 23 #[.int .i64 t] w (FromPost w t) := by
  have th := there_new w #[.bool false, .slice none 0 0] 29 2 (by simp)
  have hB := (Below.refl w.heap.size w).alloc (Nat.le_refl _) (.cells #[.bool false, .slice none 0 0] 29)
  generalize hn : t.natAbs = n
  have hn64 : n < 18446744073709551616 := by omega
  obtain ⟨v1, v2⟩ := two_val n hn64
  have hL := Lim.new (w.alloc (.cells #[.bool false, .slice none 0 0] 29)) [n % 4294967296, n / 4294967296] 91 2 v2 (by simp) (by simp)
  have hM := rmade_walk (decide (t < 0)) _ _ _ 2 2 _ hL (by simp) (by rw [v1]; exact Nat.le_trans (canon_len 2 n (by omega)) (by decide))
  rw [v1, show sgn (decide (t < 0)) n = t by rw [← hn]; exact from_sgn t] at hM
  have r1 : (IntKind.u32.wrap (n : Int)) = ((n % 4294967296 : Nat) : Int) := by rw [IntKind.wrap_u32]; omega
  have hM1 : Calls Tryz.prog 58 #[.bool (decide (t < 0)), .slice (some ⟨w.heap.size + 1, 0, none⟩) 2 2] ((w.alloc (.cells #[.bool false, .slice none 0 0] 29)).alloc (.cells #[.int .u32 ((n : Int) % 4294967296), .int .u32 ((n : Int) / 4294967296)] 91)) (NumPost ((w.alloc (.cells #[.bool false, .slice none 0 0] 29)).alloc (.cells #[.int .u32 ((n : Int) % 4294967296), .int .u32 ((n : Int) / 4294967296)] 91)) t) := by
    simpa [us, u4] using hM
  have hB1 := hB.alloc (by simp) (.cells #[.int .u32 ((n : Int) % 4294967296), .int .u32 ((n : Int) / 4294967296)] 91)
  have th1 := World.there_alloc th (.cells #[.int .u32 ((n : Int) % 4294967296), .int .u32 ((n : Int) / 4294967296)] 91)
  clear hM hL v2 hB th
  generalize hW : (w.alloc (.cells #[.bool false, .slice none 0 0] 29)).alloc (.cells #[.int .u32 ((n : Int) % 4294967296), .int .u32 ((n : Int) / 4294967296)] 91) = W at hM1 hB1 th1
  have hsz : W.heap.size = w.heap.size + 2 := by rw [← hW]; simp
  have HW := Lib.hid hW
  have TH1 := Lib.hid th1
  have HB1 := Lib.hid hB1
  clear hW th1 hB1
  have fin : ∀ (a : Option Addr) (k c : Nat) (w2 : World) (bb : Bool), bb = decide (t < 0) → Lim w2 a k c (canon t.natAbs) → (∀ b off, a = some ⟨b, off, none⟩ → W.heap.size ≤ b) → Below W.heap.size W w2 → World.rangeAt ((w2.alloc (.cells #[.bool bb, .slice a k c] 29)).setCells w.heap.size 0 [.bool bb, .slice a k c]) w.heap.size 0 [.bool bb, .slice a k c] ∧ FromPost w t (.returned (.agg #[.bool bb, .slice a k c])) ((w2.alloc (.cells #[.bool bb, .slice a k c] 29)).setCells w.heap.size 0 [.bool bb, .slice a k c]) := by
    intro a k c w2 bb hbb hV hf hb
    have hbe := below_then HB1.out hb
    have ths := World.there_alloc (there_below TH1.out hb (by omega)) (.cells #[.bool bb, .slice a k c] 29)
    refine ⟨World.rangeAt_setCells_same _ _ _ _ ths, _, rfl, ⟨a, k, c, by rw [hbb], (hV.below ((Below.refl _ w2).alloc (Nat.le_refl _) _)).setCells (fun b off e => by have := hf b off e; omega) _ _, fun b off e => by have := hf b off e; omega⟩, below_setCells _ (Nat.le_refl _) _ _ _ (hbe.alloc hbe.size _)⟩
  have Fin := Lib.hid fin
  clear fin
  by_cases g : t < 0
  · have r2 : IntKind.u64.wrap t = t + 18446744073709551616 := by rw [IntKind.wrap_u64]; omega
    have r3 : IntKind.u64.wrap (-(t + 18446744073709551616)) = (n : Int) := by rw [IntKind.wrap_u64]; omega
    have dg : decide (t < 0) = true := decide_eq_true g
    rw [dg] at hM1
    have Dg := Lib.hid dg
    have HM1 := Lib.hid hM1
    clear hM1 dg
    go_enter Tryz.func23, Tryz.ntmps23
    go_wp2_with fail
    rw [HW.out]
    refine HM1.out.mono ?_
    rintro e w2 ⟨V, rfl, ⟨a, k, c, rfl, hV, hf⟩, hb⟩
    rw [Dg.out]
    have th2 := there_below TH1.out hb (by omega)
    have F2 := Lib.hid (Fin.out a k c w2 true Dg.out.symm hV hf hb)
    have q0 := cellOf_some (World.there_alloc th2 (.cells #[.bool true, .slice a k c] 29) 0 (by omega)).1
    have q1 := cellOf_some (World.there_alloc th2 (.cells #[.bool true, .slice a k c] 29) 1 (by omega)).1
    have f0 := (World.there_alloc th2 (.cells #[.bool true, .slice a k c] 29) 0 (by omega)).2
    have f1 := (World.there_alloc th2 (.cells #[.bool true, .slice a k c] 29) 1 (by omega)).2
    clear hV hf hb th2
    go_wp2_with fail
    exact bodyPost_ret (ret_cell Tryz.results23 _ _ w.heap.size [.bool true, .slice a k c] _ rfl F2.out.1 Tryz.underlying29 rfl infoW) rfl F2.out.2
  · have r2 : IntKind.u64.wrap t = (n : Int) := by rw [IntKind.wrap_u64]; omega
    have dg : decide (t < 0) = false := decide_eq_false g
    rw [dg] at hM1
    have Dg := Lib.hid dg
    have HM1 := Lib.hid hM1
    clear hM1 dg
    go_enter Tryz.func23, Tryz.ntmps23
    go_wp2_with fail
    rw [HW.out]
    refine HM1.out.mono ?_
    rintro e w2 ⟨V, rfl, ⟨a, k, c, rfl, hV, hf⟩, hb⟩
    rw [Dg.out]
    have th2 := there_below TH1.out hb (by omega)
    have F2 := Lib.hid (Fin.out a k c w2 false Dg.out.symm hV hf hb)
    have q0 := cellOf_some (World.there_alloc th2 (.cells #[.bool false, .slice a k c] 29) 0 (by omega)).1
    have q1 := cellOf_some (World.there_alloc th2 (.cells #[.bool false, .slice a k c] 29) 1 (by omega)).1
    have f0 := (World.there_alloc th2 (.cells #[.bool false, .slice a k c] 29) 0 (by omega)).2
    have f1 := (World.there_alloc th2 (.cells #[.bool false, .slice a k c] 29) 1 (by omega)).2
    clear hV hf hb th2
    go_wp2_with fail
    exact bodyPost_ret (ret_cell Tryz.results23 _ _ w.heap.size [.bool false, .slice a k c] _ rfl F2.out.1 Tryz.underlying29 rfl infoW) rfl F2.out.2
end Wd
end Go.Proofs.YtmgehfakcnmdnaaGreatDoor
/-
  The reference's whole numbers: times, Mul.
-/
namespace Go.Proofs.YtmgehfakcnmdnaaGreatDoor
namespace Wd
open Go.RowKit Lw

set_option maxRecDepth 100000 in
set_option maxHeartbeats 4000000 in
theorem rtimes_walk (a b : List Nat) (A D : Option Addr) (na ca nb cb : Nat) (w : World) (hA : Lim w A na ca a) (hD : Lim w D nb cb b) (hn : na + nb ≤ 1000000) :
    Calls Tryz.prog 81 #[.slice A na ca, .slice D nb cb] w (FreshPost w (na + nb) fun L => val L = val a * val b) := by
  have la := hA.len
  have lb := hD.len
  have HA := Lib.hid hA
  have HD := Lib.hid hD
  clear hA hD
  have hmk : ∀ w, (Instr.makeSlice 27 (.int .i64 ((na : Int) + (nb : Int))) (.int .i64 ((na : Int) + (nb : Int)))).run Tryz.prog w = .ok (.slice (some ⟨w.heap.size, 0, none⟩) (na + nb) (na + nb)) (w.alloc (.cells (nu (na + nb)) 91)) := fun w => by
    have := make_nu (na + nb) hn w
    rwa [Int.natCast_add] at this
  go_enter Tryz.func81, Tryz.ntmps81
  go_wp2
  have st : TOut a b (List.replicate (na + nb) 0) 0 := by rw [← la, ← lb]; exact TOut.zero a b
  have hA0 := Arr.nu w (na + nb)
  have hB0 := (Below.refl w.heap.size w).alloc (Nat.le_refl _) (.cells (nu (na + nb)) 91)
  clear hmk
  go_loopw [6] (fun i wr => ∃ (k : Nat) (L : List Nat), k ≤ na ∧ i = .int .i64 k ∧ TOut a b L k ∧ Arr wr w.heap.size L ∧ Below w.heap.size w wr) (fun i _ => na - (intOf i).toNat)
  case atStart => exact ⟨0, _, by omega, rfl, st, hA0, hB0⟩
  case round =>
    clear hA0 hB0 st
    obtain ⟨i, L, hi, rfl, hT, hR, hB⟩ := hrel
    by_cases hlt : i < na
    · have hAw := HA.out.below hB
      obtain ⟨bA, oA, rfl, -, -⟩ := hAw.row (by omega)
      have cA := hAw.cell (k := i) (by omega)
      have i1 : (i : Int) < (na : Int) := by omega
      have xb := lb_get hAw.lb (k := i) (by omega)
      generalize hx : a[i]'(by omega) = x at cA xb
      have T0 := Lib.hid (hT.start x)
      have HR := Lib.hid hR
      have HB := Lib.hid hB
      clear hT hR hB hAw
      go_wp2
      go_loopw [7, 8] (fun c j w2 => ∃ (k cc : Nat) (L : List Nat), k ≤ nb ∧ j = .int .i64 k ∧ c = .int .u64 cc ∧ TIn a b L i k cc x ∧ Arr w2 w.heap.size L ∧ Below w.heap.size w w2) (fun _ j _ => nb - (intOf j).toNat)
      case atStart => exact ⟨0, 0, _, by omega, rfl, rfl, T0.out, HR.out, HB.out⟩
      case round =>
        clear T0 HR HB
        obtain ⟨k, cc, L, hk, rfl, rfl, hT, hR, hB⟩ := hrel
        have hLl := hT.len
        by_cases hlk : k < nb
        · have cA2 := (HA.out.below hB).cell (k := i) (by omega)
          rw [hx] at cA2
          have hDw := HD.out.below hB
          obtain ⟨bD, oD, rfl, -, -⟩ := hDw.row (by omega)
          have cD := hDw.cell (k := k) (by omega)
          have k1 : (k : Int) < (nb : Int) := by omega
          have yb := lb_get hDw.lb (k := k) (by omega)
          have cL := hR.cell (k := i + k) (by omega)
          have fL := hR.free (i + k)
          have lbd := lb_get hT.lb (k := i + k) (by omega)
          have ts := hT.step (by omega) (by omega) hDw.lb xb (by omega)
          have ccb := hT.c1
          have pb := prod_bd xb yb ccb lbd
          generalize b[k]'(by omega) = y at cD yb ts pb
          generalize L[i + k]'(by omega) = l at cL lbd ts pb
          have r1 : IntKind.u64.wrap ((x : Int) * (y : Int)) = ((x * y : Nat) : Int) := by rw [← Int.natCast_mul]; exact IntWalk.u64_in _ (by omega)
          generalize x * y = p at ts pb r1
          have ev : (((cc + (p + l)) % 4294967296 : Nat) : Int) = ((cc : Int) + ((p : Int) + (l : Int))) % 4294967296 := by omega
          have ed : (((cc + (p + l)) / 4294967296 : Nat) : Int) = ((cc : Int) + ((p : Int) + (l : Int))) / 4294967296 := by omega
          have rs := fun N => (hR.drewN N).set (i + k) ((cc + (p + l)) % 4294967296)
          rw [ev] at rs
          have fin : ∀ N, ∃ (k' cc' : Nat) (L' : List Nat), k' ≤ nb ∧ Value.int .i64 ((k : Int) + 1) = .int .i64 (k' : Int) ∧ Value.int .u64 (((cc : Int) + ((p : Int) + (l : Int))) / 4294967296) = .int .u64 (cc' : Int) ∧ TIn a b L' i k' cc' x ∧ Arr ((wr.drewN N).setCell ⟨w.heap.size, i + k, none⟩ (.int .u32 (((cc : Int) + ((p : Int) + (l : Int))) % 4294967296))) w.heap.size L' ∧ Below w.heap.size w ((wr.drewN N).setCell ⟨w.heap.size, i + k, none⟩ (.int .u32 (((cc : Int) + ((p : Int) + (l : Int))) % 4294967296))) :=
            fun N => ⟨k + 1, _, _, by omega, by simp, by rw [← ed], ts, rs N, (below_drewN hB N).setCell (p := ⟨w.heap.size, i + k, none⟩) (Nat.le_refl _) _⟩
          have Fin := Lib.hid fin
          obtain ⟨-, pb2⟩ := pb
          clear fin ts rs ev ed hT hR hB hDw
          go_wp2
          go_quiet (fail)
          go_wp2
          go_roundw
          case rel => exact Fin.out nq
          case measure => simp [intOf]; omega
        · obtain rfl : k = nb := by omega
          have rs := hR.set (i + k) cc
          have cL := hR.cell (k := i + k) (by omega)
          have fL := hR.free (i + k)
          have ccb := hT.c1
          have bs : Below w.heap.size w (wr.setCell ⟨w.heap.size, i + k, none⟩ (.int .u32 (cc : Int))) := hB.setCell (p := ⟨w.heap.size, i + k, none⟩) (Nat.le_refl _) _
          have tf : TOut a b (L.set (i + k) cc) (i + 1) := by
            have := TIn.fin (a := a) (b := b) (L := L) (i := i) (c := cc) (by omega) (by rw [hx, lb]; exact hT)
            rwa [lb] at this
          have fin : ∃ (k' : Nat) (L' : List Nat), k' ≤ na ∧ Value.int .i64 ((i : Int) + 1) = .int .i64 (k' : Int) ∧ TOut a b L' k' ∧ Arr (wr.setCell ⟨w.heap.size, i + k, none⟩ (.int .u32 (cc : Int))) w.heap.size L' ∧ Below w.heap.size w (wr.setCell ⟨w.heap.size, i + k, none⟩ (.int .u32 (cc : Int))) :=
            ⟨i + 1, _, by omega, by simp, tf, rs, bs⟩
          have Fin := Lib.hid fin
          clear fin tf rs bs hT hR hB
          go_wp2
          go_roundw
          case rel => exact Fin.out
          case measure => simp [intOf]; omega
    · obtain rfl : i = na := by omega
      go_wp2
      refine bodyPost_ret (results_tmp rfl _ _ _) rfl ⟨L, rfl, by rw [hT.len]; omega, hT.lb, ?_, hR, hB⟩
      show val L = val a * val b
      rw [hT.v, ← la, List.take_length]
end Wd
end Go.Proofs.YtmgehfakcnmdnaaGreatDoor
/-
  The reference's whole numbers: Mul.
-/
namespace Go.Proofs.YtmgehfakcnmdnaaGreatDoor
namespace Wd
open Go.RowKit Lw

set_option maxRecDepth 100000 in
set_option maxHeartbeats 4000000 in
theorem rmul_walk (V1 V2 : Value) (z1 z2 : Int) (w : World) (h1 : Wide 0 w V1 z1) (h2 : Wide 0 w V2 z2) (hn : (canon z1.natAbs).length + (canon z2.natAbs).length ≤ 4096) :
    Calls Tryz.prog 47 #[V1, V2] w (NumPost w (z1 * z2)) := by
  have RB := Lib.hid (fun w' (hb : Below w.heap.size w w') => rboth_walk V1 V2 z1 z2 w' (h1.below hb) (h2.below hb) (by omega) (by omega))
  obtain ⟨a, n, ca, rfl, hA, -⟩ := h1
  obtain ⟨d, m, cd, rfl, hD, -⟩ := h2
  have la := hA.len
  have ld := hD.len
  have hS0 := BX.new w (decide (z1 < 0)) (decide (z2 < 0)) (.slice a n ca) (.slice d m cd)
  have HA := Lib.hid hA
  have HD := Lib.hid hD
  have HS := Lib.hid hS0
  have NV : val (canon z1.natAbs) * val (canon z2.natAbs) = (z1 * z2).natAbs := by rw [val_canon, val_canon, Int.natAbs_mul]
  have NV := Lib.hid NV
  have SM := Lib.hid (sgn_mul z1 z2)
  clear hA hD hS0
  generalize decide (z1 < 0) = n1 at *
  generalize decide (z2 < 0) = n2 at *
  go_enter Tryz.func47, Tryz.ntmps47
  go_wp2_with fail
  refine (RB.out _ HS.out.below).mono ?_
  rintro e w1 ⟨rfl, hb⟩
  have hS := HS.out.call hb
  clear hb HS RB
  go_wp2_with fail
  have KA := fun w' (h : BXS w n1 n2 (.slice a n ca) (.slice d m cd) w') => HA.out.below h.2.2.2.2.2.2.2.2.below
  have KD := fun w' (h : BXS w n1 n2 (.slice a n ca) (.slice d m cd) w') => HD.out.below h.2.2.2.2.2.2.2.2.below
  have KC := fun w' w2 (h : BXS w n1 n2 (.slice a n ca) (.slice d m cd) w') (hb : Below w'.heap.size w' w2) => h.2.2.2.2.2.2.2.2.call hb
  have nl : ∀ L : List Nat, Lb L → L.length = n + m → (canon (val L)).length ≤ 4096 := fun L h1 h2 => by have := canon_le L h1; omega
  have nc : ∀ L : List Nat, ∀ w2 g, Arr w2 g L → Lb L → L.length = n + m → Lim w2 (some ⟨g, 0, none⟩) (n + m) (n + m) L := fun L w2 g h1 h2 h3 => by have := h1.lim (cap := n + m) h2 (by omega) (by omega); rwa [h3] at this
  go_region_held3 (fun w' => w'.cell? ⟨w.heap.size, 0, none⟩ = some (.bool n1) ∧ w'.cell? ⟨w.heap.size, 1, none⟩ = some (.slice a n ca) ∧ w'.cell? ⟨w.heap.size + 1, 0, none⟩ = some (.bool n2) ∧ w'.cell? ⟨w.heap.size + 1, 1, none⟩ = some (.slice d m cd) ∧ w'.cell? ⟨w.heap.size + 2, 0, none⟩ = some (cellOf w' ⟨w.heap.size + 2, 0, none⟩) ∧ w'.cell? ⟨w.heap.size + 2, 1, none⟩ = some (cellOf w' ⟨w.heap.size + 2, 1, none⟩) ∧ w'.frozen? ⟨w.heap.size + 2, 0, none⟩ = false ∧ w'.frozen? ⟨w.heap.size + 2, 1, none⟩ = false ∧ BX w n1 n2 (.slice a n ca) (.slice d m cd) w') (first | exact BX.s (BX.drew hS) | exact BX.s hS | exact BX.s hk2 | exact BX.s hk | exact BX.s (BX.set (BX.set hk2 _ _) _ _) | exact BX.s (by assumption)) (first | (go_at_call 81; refine (rtimes_walk _ _ _ _ n ca m cd _ (KA _ (by assumption)) (KD _ (by assumption)) (by omega)).mono ?_; rintro e w' ⟨L, rfl, hL1, hL2, hL3, hL4, hb⟩; have hk := KC _ _ (by assumption) hb; have HL3 := Lib.hid hL3; clear hb hL3) | (go_at_call 58; refine (rmade_walk _ L _ 0 _ _ _ (nc L _ _ hL4 hL2 hL1) hL4.lt (nl L hL2 hL1)).mono ?_; rintro e w' ⟨V, rfl, ⟨a', k', c', rfl, hM, hf⟩, hb⟩; have hk2 := BX.call hk hb; clear hb))
  have e : sgn (!(n1 == n2)) (val L) = z1 * z2 := by rw [HL3.out, NV.out]; exact SM.out
  have hs := hS.size
  have hks := hk.size
  rw [e] at hM ⊢
  have FF := Lib.hid (num_fin2 hk2 hM (fun b off e => Nat.le_trans hks (hf b off e)))
  clear hM hf e
  go_wp2_with fail
  exact bodyPost_ret (ret_cell_tmp Tryz.results47 _ _ (w.heap.size + 2) [.bool _, .slice _ _ _] _ rfl FF.out.1 Tryz.underlying29 rfl infoW) rfl FF.out.2
end Wd
end Go.Proofs.YtmgehfakcnmdnaaGreatDoor
/-
  The reference's whole numbers: compare.
-/
namespace Go.Proofs.YtmgehfakcnmdnaaGreatDoor
namespace Wd
open Go.RowKit Lw

theorem drop_eq_cons {a b : List Nat} {p : Nat} (ha : p < a.length) (hb : p < b.length) (h : a.drop (p + 1) = b.drop (p + 1)) (e : a[p] = b[p]) : a.drop p = b.drop p := by
  rw [List.drop_eq_getElem_cons ha, List.drop_eq_getElem_cons hb, h, e]
set_option maxRecDepth 100000 in
set_option maxHeartbeats 4000000 in
theorem rcompare_walk (X Y : Nat) (A D : Option Addr) (na ca nb cb : Nat) (w : World) (hA : Lim w A na ca (canon X)) (hD : Lim w D nb cb (canon Y)) :
    Calls Tryz.prog 83 #[.slice A na ca, .slice D nb cb] w fun e w' => e = .returned (.int .i64 (cmpN X Y)) ∧ Below w.heap.size w w' := by
  have la := hA.len
  have lb := hD.len
  have sa := hA.sm
  have HA := Lib.hid hA
  have HD := Lib.hid hD
  clear hA hD
  by_cases hne : na = nb
  · subst hne
    go_enter Tryz.func83, Tryz.ntmps83
    go_wp2
    go_loopw [5] (fun i wr => ∃ j : Nat, j ≤ na ∧ i = .int .i64 ((j : Int) - 1) ∧ (canon X).drop j = (canon Y).drop j ∧ Below w.heap.size w wr) (fun i _ => (intOf i + 1).toNat)
    case atStart => exact ⟨na, Nat.le_refl _, rfl, by rw [List.drop_of_length_le (by omega), List.drop_of_length_le (by omega)], Below.refl _ _⟩
    case round =>
      obtain ⟨j, hj, rfl, hd, hB⟩ := hrel
      cases j with
      | succ p =>
        have hAw := HA.out.below hB
        have hDw := HD.out.below hB
        obtain ⟨bA, oA, rfl, -, -⟩ := hAw.row (by omega)
        obtain ⟨bD, oD, rfl, -, -⟩ := hDw.row (by omega)
        have cA := hAw.cell (k := p) (by omega)
        have cD := hDw.cell (k := p) (by omega)
        have e1 : (((p + 1 : Nat)) : Int) - 1 = (p : Int) := by omega
        have e2 : IntKind.i64.wrap ((p : Int) - 1) = (p : Int) - 1 := IntWalk.i64_in _ (by omega)
        have k0 : (0 : Int) ≤ (p : Int) := by omega
        have k1 : (p : Int) < (na : Int) := by omega
        have hlt : (canon X)[p]'(by omega) < (canon Y)[p]'(by omega) → X < Y := fun h => by
          have := lt_of_top (lb_canon X) (by omega) (show p < (canon X).length by omega) hd h
          rwa [val_canon, val_canon] at this
        have hgt : (canon Y)[p]'(by omega) < (canon X)[p]'(by omega) → Y < X := fun h => by
          have := lt_of_top (lb_canon Y) (by omega) (show p < (canon Y).length by omega) hd.symm h
          rwa [val_canon, val_canon] at this
        have heq : (canon X)[p]'(by omega) = (canon Y)[p]'(by omega) → (canon X).drop p = (canon Y).drop p := fun h => drop_eq_cons (by omega) (by omega) hd h
        generalize (canon X)[p]'(by omega) = x at cA hlt hgt heq
        generalize (canon Y)[p]'(by omega) = y at cD hlt hgt heq
        have HB := Lib.hid hB
        clear hd hAw hDw hB
        rw [e1]
        rcases Nat.lt_trichotomy x y with h | h | h
        · have hc := Lib.hid (cmp_lt (hlt h))
          have g1 : (x : Int) < (y : Int) := by omega
          clear hlt hgt heq
          go_wp2
          go_quiet (fail)
          go_wp2
          exact bodyPost_ret (results_tmp rfl _ _ _) rfl ⟨by rw [hc.out]; rfl, below_drewN HB.out _⟩
        · have hc := Lib.hid (heq h)
          have g1 : ¬ (x : Int) < (y : Int) := by omega
          have g2 : ¬ (y : Int) < (x : Int) := by omega
          clear hlt hgt heq
          go_wp2
          go_quiet (fail)
          go_wp2
          go_quiet (fail)
          go_wp2
          go_roundw
          case rel => exact ⟨p, by omega, rfl, hc.out, by first | exact below_drewN HB.out _ | exact below_drewN (below_drewN HB.out _) _⟩
          case measure => simp [intOf]
        · have hc := Lib.hid (cmp_gt (hgt h))
          have g1 : ¬ (x : Int) < (y : Int) := by omega
          have g2 : (y : Int) < (x : Int) := by omega
          clear hlt hgt heq
          go_wp2
          go_quiet (fail)
          go_wp2
          go_quiet (fail)
          go_wp2
          exact bodyPost_ret (results_tmp rfl _ _ _) rfl ⟨by rw [hc.out]; rfl, by first | exact below_drewN HB.out _ | exact below_drewN (below_drewN HB.out _) _⟩
      | zero =>
        have hXY : X = Y := by
          simp only [List.drop_zero] at hd
          rw [← val_canon X, hd, val_canon]
        have hc := Lib.hid (show cmpN X Y = 0 by rw [hXY, cmp_eq])
        have HB := Lib.hid hB
        clear hd hXY hB
        go_wp2
        exact bodyPost_ret (results_tmp rfl _ _ _) rfl ⟨by rw [hc.out]; rfl, HB.out⟩
  · have ne1 : ¬ (na : Int) = (nb : Int) := by omega
    rcases Nat.lt_or_gt_of_ne hne with g | g
    · have hc := Lib.hid (cmp_lt (canon_lt_of_len (A := X) (B := Y) (by omega)))
      have g1 : (na : Int) < (nb : Int) := by omega
      clear HA HD la lb
      go_enter Tryz.func83, Tryz.ntmps83
      go_wp2
      exact bodyPost_ret (results_tmp rfl _ _ _) rfl ⟨by rw [hc.out]; rfl, Below.refl _ _⟩
    · have hc := Lib.hid (cmp_gt (canon_lt_of_len (A := Y) (B := X) (by omega)))
      have g1 : ¬ (na : Int) < (nb : Int) := by omega
      clear HA HD la lb
      go_enter Tryz.func83, Tryz.ntmps83
      go_wp2
      exact bodyPost_ret (results_tmp rfl _ _ _) rfl ⟨by rw [hc.out]; rfl, Below.refl _ _⟩
end Wd
end Go.Proofs.YtmgehfakcnmdnaaGreatDoor
/-
  The reference's whole numbers: plus.
-/
namespace Go.Proofs.YtmgehfakcnmdnaaGreatDoor
namespace Wd
open Go.RowKit Lw

/-- plus, by appending. -/
structure RPIn (a b L : List Nat) (i c : Nat) : Prop where
  len : L.length = i
  lb : Lb L
  c1 : c ≤ 1
  v : val L + c * 4294967296 ^ i = val (a.take i) + val (b.take i)
theorem RPIn.zero (a b : List Nat) : RPIn a b [] 0 0 := ⟨rfl, fun x hx => by simp at hx, by omega, by simp [val]⟩
theorem RPIn.step {a b L : List Nat} {i c : Nat} (h : RPIn a b L i c) (ha : Lb a) (hb : Lb b) : RPIn a b (L ++ [(c + at0 a i + at0 b i) % 4294967296]) (i + 1) ((c + at0 a i + at0 b i) / 4294967296) := by
  have hlen := h.len
  subst hlen
  have hx := at0_lt ha L.length
  have hy := at0_lt hb L.length
  have hc := h.c1
  have hv := h.v
  refine ⟨by simp, lb_snoc h.lb (Nat.mod_lt _ (by decide)), by omega, ?_⟩
  rw [val_snoc, val_take0, val_take0, Nat.pow_succ]
  generalize at0 a L.length = x at *
  generalize at0 b L.length = y at *
  have e := split_pow (4294967296 ^ L.length) (c + x + y)
  have e2 : 4294967296 ^ L.length * (c + x + y) = c * 4294967296 ^ L.length + 4294967296 ^ L.length * x + 4294967296 ^ L.length * y := by rw [Nat.mul_add, Nat.mul_add, Nat.mul_comm _ c]
  omega
theorem RPIn.fin {a b L : List Nat} {c n : Nat} (h : RPIn a b L n c) (ha : a.length ≤ n) (hb : b.length ≤ n) : val (L ++ [c]) = val a + val b ∧ Lb (L ++ [c]) ∧ (L ++ [c]).length = n + 1 := by
  have hv := h.v
  rw [List.take_of_length_le ha, List.take_of_length_le hb] at hv
  exact ⟨by rw [val_snoc, h.len, ← hv, Nat.mul_comm c], lb_snoc h.lb (by have := h.c1; omega), by simp [h.len]⟩
theorem own_snoc {w1 : World} {B : Nat} {v' : Value} {L : List Nat} {x : Nat} (h : w1.ownsRow B 91 1 v' (L.length + 1) (us L ++ [.int .u32 (x : Int)])) : OwnL w1 B v' (L ++ [x]) := by
  show w1.ownsRow _ _ 1 v' (L ++ [x]).length (us (L ++ [x]))
  rw [List.length_append, us, List.map_append]
  exact h
set_option maxRecDepth 100000 in
set_option maxHeartbeats 4000000 in
theorem rplus_walk (a b : List Nat) (A D : Option Addr) (na ca nb cb : Nat) (w : World) (hA : Lim w A na ca a) (hD : Lim w D nb cb b) (hn : na + 1 ≤ 1000000) (hle : nb ≤ na) :
    Calls Tryz.prog 114 #[.slice A na ca, .slice D nb cb] w fun e w' => ∃ V L, e = .returned V ∧ L.length = na + 1 ∧ Lb L ∧ val L = val a + val b ∧ OwnL w' w.heap.size V L ∧ Below w.heap.size w w' := by
  have la := hA.len
  have lb := hD.len
  have HA := Lib.hid hA
  have HD := Lib.hid hD
  obtain ⟨i0', hi, hzz⟩ := Option.map_eq_some_iff.1 info4
  simp only [Prod.mk.injEq] at hzz
  obtain ⟨hz0, hz1, hz2⟩ := hzz
  clear hA hD
  go_enter Tryz.func114, Tryz.ntmps114
  go_wp2
  have hA0 : OwnL w w.heap.size (.slice none 0 0) [] := World.ownsRow_nil _ _ _ _
  have hB0 := Below.refl w.heap.size w
  go_loopw [5, 6, 7] (fun V c i wr => ∃ (k cc : Nat) (L : List Nat), k ≤ na ∧ c = .int .u64 cc ∧ i = .int .i64 k ∧ RPIn a b L k cc ∧ OwnL wr w.heap.size V L ∧ Below w.heap.size w wr) (fun _ _ i _ => na - (intOf i).toNat)
  case atStart => exact ⟨0, 0, [], by omega, rfl, rfl, RPIn.zero a b, hA0, hB0⟩
  case round =>
    clear hA0 hB0
    obtain ⟨k, c, L, hk, rfl, rfl, hF, hO, hB⟩ := hrel
    have hL := hF.len
    have hc := hF.c1
    have hsz := hB.size
    have HO := Lib.hid hO
    have HB := Lib.hid hB
    clear hO hB
    by_cases hlt : k < na
    · have hAw := HA.out.below HB.out
      obtain ⟨bA, oA, rfl, -, -⟩ := hAw.row (by omega)
      have cA := hAw.cell (k := k) (by omega)
      have i1 : (k : Int) < (na : Int) := by omega
      have xb := lb_get hAw.lb (k := k) (by omega)
      have st := hF.step hAw.lb HD.out.lb
      have yb := at0_lt HD.out.lb k
      rw [at0_in (b := a) (by omega)] at st
      generalize a[k]'(by omega) = x at cA xb st
      by_cases hib : k < nb
      · have hDw := HD.out.below HB.out
        obtain ⟨bD, oD, rfl, -, -⟩ := hDw.row (by omega)
        have cD := hDw.cell (k := k) (by omega)
        have j1 : (k : Int) < (nb : Int) := by omega
        rw [at0_in (b := b) (by omega)] at st yb
        generalize b[k]'(by omega) = y at cD st yb
        have Ev := Lib.hid (show (((c + x + y) % 4294967296 : Nat) : Int) = ((c : Int) + (x : Int) + (y : Int)) % 4294967296 by omega)
        have Ed := Lib.hid (show (((c + x + y) / 4294967296 : Nat) : Int) = ((c : Int) + (x : Int) + (y : Int)) / 4294967296 by omega)
        have St := Lib.hid st
        clear st hF hAw hDw
        go_wp2_with (at_builtin; refine wpList_append_own _ rfl (.tmp 42) (.tmp 45) 27 rfl w.heap.size 91 i0' (.int .u32 0) 1 4 Tryz.underlying27 hi hz0 hz1 hz2 rfl (by decide) _ _ _ rfl (HO.out.alloc _) ⟨wr.heap.size, 0, none⟩ 1 1 [.int .u32 (((c : Int) + (x : Int) + (y : Int)) % 4294967296)] rfl rfl (by intro j u hj; match j, hj with | 0, hj => (simp at hj; subst hj; simp [Addr.add])) (by intro u hu; simp at hu; subst hu; rfl) (by unfold maxLen; omega) (by omega) (by simp; omega) ?_)
        intro v' w1 hown' hgrow _
        have hB1 := (HB.out.alloc (Nat.le_of_lt_succ (by omega)) (.cells #[.int .u32 (((c : Int) + (x : Int) + (y : Int)) % 4294967296)] 91)).grown hgrow (by simp; omega) (fun k e => (HO.out.lt k e).1)
        rw [← Ev.out] at hown'
        have Fin := Lib.hid (show ∃ (k' c' : Nat) (L' : List Nat), k' ≤ na ∧ Value.int .u64 (((c : Int) + (x : Int) + (y : Int)) / 4294967296) = .int .u64 (c' : Int) ∧ Value.int .i64 ((k : Int) + 1) = .int .i64 (k' : Int) ∧ RPIn a b L' k' c' ∧ OwnL w1 w.heap.size v' L' ∧ Below w.heap.size w w1 from ⟨k + 1, _, _, by omega, by rw [← Ed.out], by simp, St.out, own_snoc (by rw [hL]; exact hown'), hB1⟩)
        clear hown' hgrow hB1
        go_wp2
        go_roundw
        case rel => exact Fin.out
        case measure => simp [intOf]; omega
      · have j1 : ¬ (k : Int) < (nb : Int) := by omega
        rw [at0_out (b := b) (by omega), Nat.add_zero] at st
        have Ev := Lib.hid (show (((c + x) % 4294967296 : Nat) : Int) = ((c : Int) + (x : Int)) % 4294967296 by omega)
        have Ed := Lib.hid (show (((c + x) / 4294967296 : Nat) : Int) = ((c : Int) + (x : Int)) / 4294967296 by omega)
        have St := Lib.hid st
        clear st hF hAw
        go_wp2_with (at_builtin; refine wpList_append_own _ rfl (.tmp 42) (.tmp 45) 27 rfl w.heap.size 91 i0' (.int .u32 0) 1 4 Tryz.underlying27 hi hz0 hz1 hz2 rfl (by decide) _ _ _ rfl (HO.out.alloc _) ⟨wr.heap.size, 0, none⟩ 1 1 [.int .u32 (((c : Int) + (x : Int)) % 4294967296)] rfl rfl (by intro j u hj; match j, hj with | 0, hj => (simp at hj; subst hj; simp [Addr.add])) (by intro u hu; simp at hu; subst hu; rfl) (by unfold maxLen; omega) (by omega) (by simp; omega) ?_)
        intro v' w1 hown' hgrow _
        have hB1 := (HB.out.alloc (Nat.le_of_lt_succ (by omega)) (.cells #[.int .u32 (((c : Int) + (x : Int)) % 4294967296)] 91)).grown hgrow (by simp; omega) (fun k e => (HO.out.lt k e).1)
        rw [← Ev.out] at hown'
        have Fin := Lib.hid (show ∃ (k' c' : Nat) (L' : List Nat), k' ≤ na ∧ Value.int .u64 (((c : Int) + (x : Int)) / 4294967296) = .int .u64 (c' : Int) ∧ Value.int .i64 ((k : Int) + 1) = .int .i64 (k' : Int) ∧ RPIn a b L' k' c' ∧ OwnL w1 w.heap.size v' L' ∧ Below w.heap.size w w1 from ⟨k + 1, _, _, by omega, by rw [← Ed.out], by simp, St.out, own_snoc (by rw [hL]; exact hown'), hB1⟩)
        clear hown' hgrow hB1
        go_wp2
        go_roundw
        case rel => exact Fin.out
        case measure => simp [intOf]; omega
    · obtain rfl : k = na := by omega
      have hcb : (c : Int) % 4294967296 = c := by omega
      have j1 : ¬ (k : Int) < (nb : Int) := by omega
      have FF := Lib.hid (hF.fin (a := a) (b := b) (by omega) (by omega))
      clear hF
      go_wp2_with (at_builtin; refine wpList_append_own _ rfl (.tmp 49) (.tmp 52) 27 rfl w.heap.size 91 i0' (.int .u32 0) 1 4 Tryz.underlying27 hi hz0 hz1 hz2 rfl (by decide) _ _ _ rfl (HO.out.alloc _) ⟨wr.heap.size, 0, none⟩ 1 1 [.int .u32 (c : Int)] rfl rfl (by intro j u hj; match j, hj with | 0, hj => (simp at hj; subst hj; simp [Addr.add])) (by intro u hu; simp at hu; subst hu; rfl) (by unfold maxLen; omega) (by omega) (by simp; omega) ?_)
      intro v' w1 hown' hgrow _
      have hB1 := (HB.out.alloc (Nat.le_of_lt_succ (by omega)) (.cells #[.int .u32 (c : Int)] 91)).grown hgrow (by simp; omega) (fun k e => (HO.out.lt k e).1)
      have Fin := Lib.hid (show ∃ V L', Ending.returned v' = .returned V ∧ L'.length = k + 1 ∧ Lb L' ∧ val L' = val a + val b ∧ OwnL w1 w.heap.size V L' ∧ Below w.heap.size w w1 from ⟨v', L ++ [c], rfl, FF.out.2.2, FF.out.2.1, FF.out.1, own_snoc (by rw [hL]; exact hown'), hB1⟩)
      clear hown' hgrow hB1
      go_wp2
      refine bodyPost_ret (results_tmp rfl _ _ _) rfl ?_
      exact Fin.out
end Wd
end Go.Proofs.YtmgehfakcnmdnaaGreatDoor
/-
  The reference's whole numbers: minus.
-/
namespace Go.Proofs.YtmgehfakcnmdnaaGreatDoor
namespace Wd
open Go.RowKit Lw

/-- minus, by appending. -/
structure RMIn (a b L : List Nat) (i c : Nat) : Prop where
  len : L.length = i
  lb : Lb L
  c1 : c ≤ 1
  v : val L + val (b.take i) = val (a.take i) + c * 4294967296 ^ i
theorem RMIn.zero (a b : List Nat) : RMIn a b [] 0 0 := ⟨rfl, fun x hx => by simp at hx, by omega, by simp [val]⟩
theorem RMIn.step {a b L : List Nat} {i c x y : Nat} (h : RMIn a b L i c) (ha : Lb a) (hb : Lb b) (hx : at0 a i = x) (hy : at0 b i = y) : RMIn a b (L ++ [(x + 4294967296 - y - c) % 4294967296]) (i + 1) (if x < y + c then 1 else 0) := by
  have hlen := h.len
  subst hlen
  have bx := at0_lt ha L.length
  have by' := at0_lt hb L.length
  rw [hx] at bx
  rw [hy] at by'
  have hc := h.c1
  have hv := h.v
  refine ⟨by simp, lb_snoc h.lb (Nat.mod_lt _ (by decide)), br_le _ _ _, ?_⟩
  rw [val_snoc, val_take0, val_take0, Nat.pow_succ, hx, hy]
  have e := sub_pow (4294967296 ^ L.length) bx by' hc
  generalize (if x < y + c then 1 else 0 : Nat) = g at *
  omega
theorem RMIn.lt {a b L : List Nat} {i c x y : Nat} (h : RMIn a b L i c) (ha : Lb a) (hb : Lb b) (hx : at0 a i = x) (hy : at0 b i = y) (hl : x < y + c) : RMIn a b (L ++ [x + 4294967296 - y - c]) (i + 1) 1 := by
  have := h.step ha hb hx hy
  have bx := at0_lt ha i
  have by' := at0_lt hb i
  rwa [if_pos hl, Nat.mod_eq_of_lt (by omega)] at this
theorem RMIn.ge {a b L : List Nat} {i c x y : Nat} (h : RMIn a b L i c) (ha : Lb a) (hb : Lb b) (hx : at0 a i = x) (hy : at0 b i = y) (hl : ¬ x < y + c) : RMIn a b (L ++ [x - y - c]) (i + 1) 0 := by
  have := h.step ha hb hx hy
  have bx := at0_lt ha i
  rwa [if_neg hl, show (x + 4294967296 - y - c) % 4294967296 = x - y - c by omega] at this
theorem RMIn.fin {a b L : List Nat} {c n : Nat} (h : RMIn a b L n c) (ha : a.length = n) (hb : b.length ≤ n) (hle : val b ≤ val a) : val L = val a - val b := by
  have hv := h.v
  have hl := h.len
  have hlt := val_lt L h.lb
  have h1 : b.take n = b := List.take_of_length_le hb
  have h2 : a.take n = a := List.take_of_length_le (by omega)
  rw [h1, h2] at hv
  rw [hl] at hlt

  have hc := h.c1
  rcases Nat.eq_zero_or_pos c with rfl | h0
  · omega
  · obtain rfl : c = 1 := by omega
    omega
theorem own_mono {w : World} {B B' : Nat} {V : Value} {L : List Nat} (h : OwnL w B V L) (hb : B' ≤ B) : OwnL w B' V L := by
  refine ⟨h.1, h.2.imp id ?_⟩
  rintro ⟨g, cap, cur, h1, h2, h3⟩
  exact ⟨g, cap, cur, h1, by omega, h3⟩
set_option maxRecDepth 100000 in
set_option maxHeartbeats 4000000 in
theorem rminus_walk (a b : List Nat) (A D : Option Addr) (na ca nb cb : Nat) (w : World) (hA : Lim w A na ca a) (hD : Lim w D nb cb b) (hp : 0 < na) (hle : nb ≤ na) (hv : val b ≤ val a) :
    Calls Tryz.prog 115 #[.slice A na ca, .slice D nb cb] w fun e w' => ∃ V, e = .returned V ∧ OwnL w' w.heap.size V (canon (val a - val b)) ∧ Below w.heap.size w w' := by
  have la := hA.len
  have lb := hD.len
  have sa := hA.sm
  have HA := Lib.hid hA
  have HD := Lib.hid hD
  obtain ⟨i0', hi, hzz⟩ := Option.map_eq_some_iff.1 info4
  simp only [Prod.mk.injEq] at hzz
  obtain ⟨hz0, hz1, hz2⟩ := hzz
  have HV := Lib.hid hv
  clear hA hD hv
  go_enter Tryz.func115, Tryz.ntmps115
  go_wp2
  have hA0 : OwnL w w.heap.size (.slice none 0 0) [] := World.ownsRow_nil _ _ _ _
  have hB0 := Below.refl w.heap.size w
  go_loopw [5, 6, 7] (fun V c i wr => ∃ (k cc : Nat) (L : List Nat), k ≤ na ∧ c = .int .i64 cc ∧ i = .int .i64 k ∧ RMIn a b L k cc ∧ OwnL wr w.heap.size V L ∧ Below w.heap.size w wr) (fun _ _ i _ => na - (intOf i).toNat)
  case atStart => exact ⟨0, 0, [], by omega, rfl, rfl, RMIn.zero a b, hA0, hB0⟩
  case round =>
    clear hA0 hB0
    obtain ⟨k, c, L, hk, rfl, rfl, hF, hO, hB⟩ := hrel
    have hL := hF.len
    have hc := hF.c1
    have hsz := hB.size
    have HO := Lib.hid hO
    have HB := Lib.hid hB
    clear hO hB
    by_cases hlt : k < na
    · have hAw := HA.out.below HB.out
      obtain ⟨bA, oA, rfl, -, -⟩ := hAw.row (by omega)
      have cA := hAw.cell (k := k) (by omega)
      have i1 : (k : Int) < (na : Int) := by omega
      have xb := lb_get hAw.lb (k := k) (by omega)
      have hx := at0_in (b := a) (i := k) (by omega)
      generalize a[k]'(by omega) = x at cA xb hx
      by_cases hib : k < nb
      · have hDw := HD.out.below HB.out
        obtain ⟨bD, oD, rfl, -, -⟩ := hDw.row (by omega)
        have cD := hDw.cell (k := k) (by omega)
        have j1 : (k : Int) < (nb : Int) := by omega
        have yb := lb_get hDw.lb (k := k) (by omega)
        have hy := at0_in (b := b) (i := k) (by omega)
        generalize b[k]'(by omega) = y at cD yb hy
        by_cases ht : x < y + c
        · have St := Lib.hid (hF.lt HA.out.lb HD.out.lb hx hy ht)
          have t1 : ((x : Int) - (c : Int) - (y : Int)) < 0 := by omega
          have Ev := Lib.hid (show (((x + 4294967296 - y - c) : Nat) : Int) = ((x : Int) - (c : Int) - (y : Int)) + 4294967296 by omega)
          clear hF hAw hx hDw hy
          go_wp2_with (at_builtin; refine wpList_append_own _ rfl (.tmp 37) (.tmp 40) 27 rfl w.heap.size 91 i0' (.int .u32 0) 1 4 Tryz.underlying27 hi hz0 hz1 hz2 rfl (by decide) _ _ _ rfl (HO.out.alloc _) ⟨wr.heap.size, 0, none⟩ 1 1 [.int .u32 (((x : Int) - (c : Int) - (y : Int)) + 4294967296)] rfl rfl (by intro j u hj; match j, hj with | 0, hj => (simp at hj; subst hj; simp [Addr.add])) (by intro u hu; simp at hu; subst hu; rfl) (by unfold maxLen; omega) (by omega) (by simp; omega) ?_)
          intro v' w1 hown' hgrow _
          have hB1 := (HB.out.alloc (Nat.le_of_lt_succ (by omega)) (.cells #[.int .u32 (((x : Int) - (c : Int) - (y : Int)) + 4294967296)] 91)).grown hgrow (by simp; omega) (fun k e => (HO.out.lt k e).1)
          rw [← Ev.out] at hown'
          have Fin := Lib.hid (show ∃ (k' c' : Nat) (L' : List Nat), k' ≤ na ∧ Value.int .i64 1 = .int .i64 (c' : Int) ∧ Value.int .i64 ((k : Int) + 1) = .int .i64 (k' : Int) ∧ RMIn a b L' k' c' ∧ OwnL w1 w.heap.size v' L' ∧ Below w.heap.size w w1 from ⟨k + 1, _, _, by omega, by rfl, by simp, St.out, own_snoc (by rw [hL]; exact hown'), hB1⟩)
          clear hown' hgrow hB1
          go_wp2
          go_roundw
          case rel => exact Fin.out
          case measure => simp [intOf]; omega
        · have St := Lib.hid (hF.ge HA.out.lb HD.out.lb hx hy ht)
          have t1 : ¬ ((x : Int) - (c : Int) - (y : Int)) < 0 := by omega
          have t2 := decide_eq_false t1
          have Ev := Lib.hid (show (((x - y - c) : Nat) : Int) = ((x : Int) - (c : Int) - (y : Int)) by omega)
          clear hF hAw hx hDw hy
          go_wp2_with (at_builtin; refine wpList_append_own _ rfl (.tmp 37) (.tmp 40) 27 rfl w.heap.size 91 i0' (.int .u32 0) 1 4 Tryz.underlying27 hi hz0 hz1 hz2 rfl (by decide) _ _ _ rfl (HO.out.alloc _) ⟨wr.heap.size, 0, none⟩ 1 1 [.int .u32 (((x : Int) - (c : Int) - (y : Int)))] rfl rfl (by intro j u hj; match j, hj with | 0, hj => (simp at hj; subst hj; simp [Addr.add])) (by intro u hu; simp at hu; subst hu; rfl) (by unfold maxLen; omega) (by omega) (by simp; omega) ?_)
          intro v' w1 hown' hgrow _
          have hB1 := (HB.out.alloc (Nat.le_of_lt_succ (by omega)) (.cells #[.int .u32 (((x : Int) - (c : Int) - (y : Int)))] 91)).grown hgrow (by simp; omega) (fun k e => (HO.out.lt k e).1)
          rw [← Ev.out] at hown'
          have Fin := Lib.hid (show ∃ (k' c' : Nat) (L' : List Nat), k' ≤ na ∧ Value.int .i64 0 = .int .i64 (c' : Int) ∧ Value.int .i64 ((k : Int) + 1) = .int .i64 (k' : Int) ∧ RMIn a b L' k' c' ∧ OwnL w1 w.heap.size v' L' ∧ Below w.heap.size w w1 from ⟨k + 1, _, _, by omega, by rfl, by simp, St.out, own_snoc (by rw [hL]; exact hown'), hB1⟩)
          clear hown' hgrow hB1
          go_wp2
          go_roundw
          case rel => exact Fin.out
          case measure => simp [intOf]; omega
      · have j1 : ¬ (k : Int) < (nb : Int) := by omega
        have hy := at0_out (b := b) (i := k) (by omega)
        by_cases ht : x < 0 + c
        · have St := Lib.hid (hF.lt HA.out.lb HD.out.lb hx hy ht)
          have t1 : ((x : Int) - (c : Int)) < 0 := by omega
          have Ev := Lib.hid (show (((x + 4294967296 - 0 - c) : Nat) : Int) = ((x : Int) - (c : Int)) + 4294967296 by omega)
          clear hF hAw hx
          go_wp2_with (at_builtin; refine wpList_append_own _ rfl (.tmp 37) (.tmp 40) 27 rfl w.heap.size 91 i0' (.int .u32 0) 1 4 Tryz.underlying27 hi hz0 hz1 hz2 rfl (by decide) _ _ _ rfl (HO.out.alloc _) ⟨wr.heap.size, 0, none⟩ 1 1 [.int .u32 (((x : Int) - (c : Int)) + 4294967296)] rfl rfl (by intro j u hj; match j, hj with | 0, hj => (simp at hj; subst hj; simp [Addr.add])) (by intro u hu; simp at hu; subst hu; rfl) (by unfold maxLen; omega) (by omega) (by simp; omega) ?_)
          intro v' w1 hown' hgrow _
          have hB1 := (HB.out.alloc (Nat.le_of_lt_succ (by omega)) (.cells #[.int .u32 (((x : Int) - (c : Int)) + 4294967296)] 91)).grown hgrow (by simp; omega) (fun k e => (HO.out.lt k e).1)
          rw [← Ev.out] at hown'
          have Fin := Lib.hid (show ∃ (k' c' : Nat) (L' : List Nat), k' ≤ na ∧ Value.int .i64 1 = .int .i64 (c' : Int) ∧ Value.int .i64 ((k : Int) + 1) = .int .i64 (k' : Int) ∧ RMIn a b L' k' c' ∧ OwnL w1 w.heap.size v' L' ∧ Below w.heap.size w w1 from ⟨k + 1, _, _, by omega, by rfl, by simp, St.out, own_snoc (by rw [hL]; exact hown'), hB1⟩)
          clear hown' hgrow hB1
          go_wp2
          go_roundw
          case rel => exact Fin.out
          case measure => simp [intOf]; omega
        · have St := Lib.hid (hF.ge HA.out.lb HD.out.lb hx hy ht)
          have t1 : ¬ ((x : Int) - (c : Int)) < 0 := by omega
          have t2 := decide_eq_false t1
          have Ev := Lib.hid (show (((x - 0 - c) : Nat) : Int) = ((x : Int) - (c : Int)) by omega)
          clear hF hAw hx
          go_wp2_with (at_builtin; refine wpList_append_own _ rfl (.tmp 37) (.tmp 40) 27 rfl w.heap.size 91 i0' (.int .u32 0) 1 4 Tryz.underlying27 hi hz0 hz1 hz2 rfl (by decide) _ _ _ rfl (HO.out.alloc _) ⟨wr.heap.size, 0, none⟩ 1 1 [.int .u32 (((x : Int) - (c : Int)))] rfl rfl (by intro j u hj; match j, hj with | 0, hj => (simp at hj; subst hj; simp [Addr.add])) (by intro u hu; simp at hu; subst hu; rfl) (by unfold maxLen; omega) (by omega) (by simp; omega) ?_)
          intro v' w1 hown' hgrow _
          have hB1 := (HB.out.alloc (Nat.le_of_lt_succ (by omega)) (.cells #[.int .u32 (((x : Int) - (c : Int)))] 91)).grown hgrow (by simp; omega) (fun k e => (HO.out.lt k e).1)
          rw [← Ev.out] at hown'
          have Fin := Lib.hid (show ∃ (k' c' : Nat) (L' : List Nat), k' ≤ na ∧ Value.int .i64 0 = .int .i64 (c' : Int) ∧ Value.int .i64 ((k : Int) + 1) = .int .i64 (k' : Int) ∧ RMIn a b L' k' c' ∧ OwnL w1 w.heap.size v' L' ∧ Below w.heap.size w w1 from ⟨k + 1, _, _, by omega, by rfl, by simp, St.out, own_snoc (by rw [hL]; exact hown'), hB1⟩)
          clear hown' hgrow hB1
          go_wp2
          go_roundw
          case rel => exact Fin.out
          case measure => simp [intOf]; omega
    · obtain rfl : k = na := by omega
      have FF := Lib.hid (hF.fin (a := a) (b := b) (by omega) (by omega) HV.out)
      have hlb := hF.lb
      clear hF
      obtain ⟨g, cp, rfl, hcp, hg, hrow⟩ := own_row HO.out (by omega)
      have hgl := (HO.out.lt g rfl).2
      have tw := rtrim_walk L g 0 L.length cp wr (Row.lim0 hrow hlb hcp (by omega)) hgl
      rw [FF.out, hL] at tw
      have TW := Lib.hid tw
      clear tw hrow
      simp only [hL]
      go_wp2_with fail
      refine TW.out.mono ?_
      rintro e w1 ⟨V, rfl, hO, hb1⟩
      have Fin := Lib.hid (show ∃ V', Ending.returned V = .returned V' ∧ OwnL w1 w.heap.size V' (canon (val a - val b)) ∧ Below w.heap.size w w1 from ⟨V, rfl, own_mono hO hsz, below_then HB.out hb1⟩)
      clear hO hb1
      go_wp2
      refine bodyPost_ret (results_tmp rfl _ _ _) rfl ?_
      exact Fin.out
end Wd
end Go.Proofs.YtmgehfakcnmdnaaGreatDoor
/-
  The reference's whole numbers: sum, where the second one is not greater and the sum is not 0.
-/
namespace Go.Proofs.YtmgehfakcnmdnaaGreatDoor
namespace Wd
open Go.RowKit Lw

theorem rplus_arm (X Y : Nat) (A D : Option Addr) (na ca nb cb : Nat) (w : World) (hA : Lim w A na ca (canon X)) (hD : Lim w D nb cb (canon Y)) (hn : na + 1 ≤ 4096) (hle : nb ≤ na) :
    Calls Tryz.prog 114 #[.slice A na ca, .slice D nb cb] w fun e w' => ∃ g cp n L, e = .returned (.slice (some ⟨g, 0, none⟩) n cp) ∧ Lim w' (some ⟨g, 0, none⟩) n cp L ∧ g < w'.heap.size ∧ (canon (val L)).length ≤ 4096 ∧ val L = X + Y ∧ Below w.heap.size w w' := by
  refine (rplus_walk _ _ A D na ca nb cb w hA hD (by omega) hle).mono ?_
  rintro e w' ⟨V, L, rfl, h1, h2, h3, hO, hb⟩
  obtain ⟨g, cp, rfl, hcp, hg, hrow⟩ := own_row hO (by omega)
  rw [val_canon, val_canon] at h3
  have := canon_le L h2
  exact ⟨g, cp, _, L, rfl, Row.lim0 hrow h2 hcp (by omega), (hO.lt g rfl).2, by omega, h3, hb⟩
theorem rminus_arm (X Y : Nat) (A D : Option Addr) (na ca nb cb : Nat) (w : World) (hA : Lim w A na ca (canon X)) (hD : Lim w D nb cb (canon Y)) (hn : na ≤ 4096) (hlt : Y < X) :
    Calls Tryz.prog 115 #[.slice A na ca, .slice D nb cb] w fun e w' => ∃ g cp n L, e = .returned (.slice (some ⟨g, 0, none⟩) n cp) ∧ Lim w' (some ⟨g, 0, none⟩) n cp L ∧ g < w'.heap.size ∧ (canon (val L)).length ≤ 4096 ∧ val L = X - Y ∧ Below w.heap.size w w' := by
  have la := hA.len
  have lb := hD.len
  have hm := canon_mono (Nat.le_of_lt hlt)
  have hm2 := canon_mono (Nat.sub_le X Y)
  have hp := (canon_lenpos (X - Y)).2 (by omega)
  refine (rminus_walk _ _ A D na ca nb cb w hA hD (by omega) (by omega) (by rw [val_canon, val_canon]; omega)).mono ?_
  rintro e w' ⟨V, rfl, hO, hb⟩
  rw [val_canon, val_canon] at hO
  obtain ⟨g, cp, rfl, hcp, hg, hrow⟩ := own_row hO (by omega)
  exact ⟨g, cp, _, _, rfl, Row.lim0 hrow (lb_canon _) hcp (by omega), (hO.lt g rfl).2, by rw [val_canon]; omega, val_canon _, hb⟩
set_option maxRecDepth 100000 in
set_option maxHeartbeats 4000000 in
theorem rsum_walk (V1 V2 : Value) (z1 z2 : Int) (w : World) (h1 : Wide 0 w V1 z1) (h2 : Wide 0 w V2 z2) (hle : z2.natAbs ≤ z1.natAbs) (hnz : z1 + z2 ≠ 0) (hn : (canon z1.natAbs).length + 1 ≤ 4096) :
    Calls Tryz.prog 82 #[V1, V2] w (NumPost w (z1 + z2)) := by
  have hmn := canon_mono hle
  obtain ⟨a, n, ca, rfl, hA, -⟩ := h1
  obtain ⟨d, m, cd, rfl, hD, -⟩ := h2
  have la := hA.len
  have ld := hD.len
  rw [la, ld] at hmn
  rw [la] at hn
  have hS0 := BX.new w (decide (z1 < 0)) (decide (z2 < 0)) (.slice a n ca) (.slice d m cd)
  have HA := Lib.hid hA
  have HD := Lib.hid hD
  have HS := Lib.hid hS0
  have SS := Lib.hid (add_same (z1 := z1) (z2 := z2))
  have SD := Lib.hid (add_diff (z1 := z1) (z2 := z2))
  have HLE := Lib.hid hle
  have HNZ := Lib.hid hnz
  clear hA hD hS0 la ld hle hnz
  generalize decide (z1 < 0) = n1 at *
  generalize decide (z2 < 0) = n2 at *
  go_enter Tryz.func82, Tryz.ntmps82
  have hS := HS.out
  have hSL := hS.s
  obtain ⟨s1, s2, s3, s4, -⟩ := hSL
  by_cases hq : n1 = n2
  · subst hq
    have T := Lib.hid (SS.out rfl)
    clear SS SD HS
    go_wp2_with fail
    clear s1 s2 s3 s4
    have KA := fun w' (h : BXS w n1 n1 (.slice a n ca) (.slice d m cd) w') => HA.out.below h.2.2.2.2.2.2.2.2.below
    have KD := fun w' (h : BXS w n1 n1 (.slice a n ca) (.slice d m cd) w') => HD.out.below h.2.2.2.2.2.2.2.2.below
    have KC := fun w' w2 (h : BXS w n1 n1 (.slice a n ca) (.slice d m cd) w') (hb : Below w'.heap.size w' w2) => h.2.2.2.2.2.2.2.2.call hb
    go_region_held3 (fun w' => w'.cell? ⟨w.heap.size, 0, none⟩ = some (.bool n1) ∧ w'.cell? ⟨w.heap.size, 1, none⟩ = some (.slice a n ca) ∧ w'.cell? ⟨w.heap.size + 1, 0, none⟩ = some (.bool n1) ∧ w'.cell? ⟨w.heap.size + 1, 1, none⟩ = some (.slice d m cd) ∧ w'.cell? ⟨w.heap.size + 2, 0, none⟩ = some (cellOf w' ⟨w.heap.size + 2, 0, none⟩) ∧ w'.cell? ⟨w.heap.size + 2, 1, none⟩ = some (cellOf w' ⟨w.heap.size + 2, 1, none⟩) ∧ w'.frozen? ⟨w.heap.size + 2, 0, none⟩ = false ∧ w'.frozen? ⟨w.heap.size + 2, 1, none⟩ = false ∧ BX w n1 n1 (.slice a n ca) (.slice d m cd) w') (first | exact BX.s (BX.drew hS) | exact BX.s hS | exact BX.s hk2 | exact BX.s hk | exact BX.s (BX.set (BX.set hk2 _ _) _ _) | exact BX.s (by assumption)) (first | (go_at_call 114; refine (rplus_arm _ _ _ _ n ca m cd _ (KA _ (by assumption)) (KD _ (by assumption)) hn hmn).mono ?_; rintro e w' ⟨g, cp, nn, L, rfl, hL1, hL2, hL4, hL3, hb⟩; have hk := KC _ _ (by assumption) hb; have HL3 := Lib.hid hL3; clear hb hL3) | (go_at_call 58; refine (rmade_walk _ L _ 0 _ _ _ hL1 hL2 hL4).mono ?_; rintro e w' ⟨V, rfl, ⟨a', k', c', rfl, hM, hf⟩, hb⟩; have hk2 := BX.call hk hb; clear hb))
    have e : sgn n1 (val L) = z1 + z2 := by rw [HL3.out, ← T.out.1]; exact T.out.2
    have hs := hS.size
    have hks := hk.size
    rw [e] at hM ⊢
    have FF := Lib.hid (num_fin2 hk2 hM (fun b off e => Nat.le_trans hks (hf b off e)))
    clear hM hf e
    go_wp2_with fail
    exact bodyPost_ret (ret_cell_tmp Tryz.results82 _ _ (w.heap.size + 2) [.bool _, .slice _ _ _] _ rfl FF.out.1 Tryz.underlying29 rfl infoW) rfl FF.out.2
  · have hq2 : ¬ n2 = n1 := fun e => hq e.symm
    have T := Lib.hid (SD.out hq HLE.out)
    have hne : z1.natAbs ≠ z2.natAbs := by
      intro e
      have e1 := T.out.1
      have := HNZ.out
      omega
    have hlt : z2.natAbs < z1.natAbs := by have := HLE.out; omega
    have CC := Lib.hid (fun w' (hb : Below w.heap.size w w') => rcompare_walk z1.natAbs z2.natAbs a d n ca m cd w' (HA.out.below hb) (HD.out.below hb))
    have HLT := Lib.hid hlt
    clear SS SD hne
    go_wp2_with fail
    · exact absurd (eq_of_beq ‹(n1 == n2) = true›) hq
    refine (CC.out _ HS.out.below).mono ?_
    rintro e w1 ⟨rfl, hb⟩
    rw [cmp_gt HLT.out]
    have hS := HS.out.call hb
    clear hb HS CC s1 s2 s3 s4
    go_wp2_with fail
    have KA := fun w' (h : BXS w n1 n2 (.slice a n ca) (.slice d m cd) w') => HA.out.below h.2.2.2.2.2.2.2.2.below
    have KD := fun w' (h : BXS w n1 n2 (.slice a n ca) (.slice d m cd) w') => HD.out.below h.2.2.2.2.2.2.2.2.below
    have KC := fun w' w2 (h : BXS w n1 n2 (.slice a n ca) (.slice d m cd) w') (hb : Below w'.heap.size w' w2) => h.2.2.2.2.2.2.2.2.call hb
    go_region_held3 (fun w' => w'.cell? ⟨w.heap.size, 0, none⟩ = some (.bool n1) ∧ w'.cell? ⟨w.heap.size, 1, none⟩ = some (.slice a n ca) ∧ w'.cell? ⟨w.heap.size + 1, 0, none⟩ = some (.bool n2) ∧ w'.cell? ⟨w.heap.size + 1, 1, none⟩ = some (.slice d m cd) ∧ w'.cell? ⟨w.heap.size + 2, 0, none⟩ = some (cellOf w' ⟨w.heap.size + 2, 0, none⟩) ∧ w'.cell? ⟨w.heap.size + 2, 1, none⟩ = some (cellOf w' ⟨w.heap.size + 2, 1, none⟩) ∧ w'.frozen? ⟨w.heap.size + 2, 0, none⟩ = false ∧ w'.frozen? ⟨w.heap.size + 2, 1, none⟩ = false ∧ BX w n1 n2 (.slice a n ca) (.slice d m cd) w') (first | exact BX.s (BX.drew hS) | exact BX.s hS | exact BX.s hk2 | exact BX.s hk | exact BX.s (BX.set (BX.set hk2 _ _) _ _) | exact BX.s (by assumption)) (first | (go_at_call 115; refine (rminus_arm _ _ _ _ n ca m cd _ (KA _ (by assumption)) (KD _ (by assumption)) (Nat.le_of_succ_le hn) HLT.out).mono ?_; rintro e w' ⟨g, cp, nn, L, rfl, hL1, hL2, hL4, hL3, hb⟩; have hk := KC _ _ (by assumption) hb; have HL3 := Lib.hid hL3; clear hb hL3) | (go_at_call 58; refine (rmade_walk _ L _ 0 _ _ _ hL1 hL2 hL4).mono ?_; rintro e w' ⟨V, rfl, ⟨a', k', c', rfl, hM, hf⟩, hb⟩; have hk2 := BX.call hk hb; clear hb))
    have e : sgn n1 (val L) = z1 + z2 := by rw [HL3.out, ← T.out.1]; exact T.out.2
    have hs := hS.size
    have hks := hk.size
    rw [e] at hM ⊢
    have FF := Lib.hid (num_fin2 hk2 hM (fun b off e => Nat.le_trans hks (hf b off e)))
    clear hM hf e
    go_wp2_with fail
    exact bodyPost_ret (ret_cell_tmp Tryz.results82 _ _ (w.heap.size + 2) [.bool _, .slice _ _ _] _ rfl FF.out.1 Tryz.underlying29 rfl infoW) rfl FF.out.2
end Wd
end Go.Proofs.YtmgehfakcnmdnaaGreatDoor
/-
  The reference's whole numbers: Add, where the second one is not greater and the sum is not 0.
-/
namespace Go.Proofs.YtmgehfakcnmdnaaGreatDoor
namespace Wd
open Go.RowKit Lw

set_option maxRecDepth 100000 in
set_option maxHeartbeats 4000000 in
theorem radd_walk (V1 V2 : Value) (z1 z2 : Int) (w : World) (h1 : Wide 0 w V1 z1) (h2 : Wide 0 w V2 z2) (hle : z2.natAbs ≤ z1.natAbs) (hnz : z1 + z2 ≠ 0) (hn : (canon z1.natAbs).length + 1 ≤ 4096) :
    Calls Tryz.prog 48 #[V1, V2] w (NumPost w (z1 + z2)) := by
  have hmn := canon_mono hle
  have RB := Lib.hid (fun w' (hb : Below w.heap.size w w') => rboth_walk V1 V2 z1 z2 w' (h1.below hb) (h2.below hb) (by omega) (by omega))
  have AW := Lib.hid (fun w' (hb : Below w.heap.size w w') => rsum_walk V1 V2 z1 z2 w' (h1.below hb) (h2.below hb) hle hnz hn)
  obtain ⟨a, n, ca, rfl, hA, -⟩ := h1
  obtain ⟨d, m, cd, rfl, hD, -⟩ := h2
  have HS := Lib.hid (BX.new w (decide (z1 < 0)) (decide (z2 < 0)) (.slice a n ca) (.slice d m cd))
  clear hA hD hle hn hmn hnz
  generalize decide (z1 < 0) = n1 at *
  generalize decide (z2 < 0) = n2 at *
  go_enter Tryz.func48, Tryz.ntmps48
  go_wp2_with fail
  refine (RB.out _ HS.out.below).mono ?_
  rintro e w1 ⟨rfl, hb⟩
  have hS := HS.out.call hb
  obtain ⟨s1, s2, s3, s4, -⟩ := hS.s
  have hs := hS.size
  have aw := AW.out w1 hS.below
  have HSS := Lib.hid hS
  clear hb HS RB hS AW
  go_wp2_with fail
  refine aw.mono ?_
  rintro e w2 ⟨V, rfl, ⟨a', k, cap, rfl, hM, hg⟩, hb⟩
  have hS2 := HSS.out.call hb
  obtain ⟨-, -, -, -, s5, s6, s7, s8, -⟩ := hS2.s
  have F := Lib.hid (num_fin2 hS2 hM (fun b off e => Nat.le_trans hs (hg b off e)))
  clear s1 s2 s3 s4 aw hb hM hg HSS hS2
  go_wp2_with fail
  exact bodyPost_ret (ret_cell_tmp Tryz.results48 _ _ (w.heap.size + 2) [.bool _, .slice _ _ _] _ rfl F.out.1 Tryz.underlying29 rfl infoW) rfl F.out.2
end Wd
end Go.Proofs.YtmgehfakcnmdnaaGreatDoor
/-
  The reference's whole numbers: left, at less than 32 bits.
-/
namespace Go.Proofs.YtmgehfakcnmdnaaGreatDoor
namespace Wd
open Go.RowKit Lw

set_option maxRecDepth 100000 in
set_option maxHeartbeats 4000000 in
theorem rleft_walk (l : List Nat) (A : Option Addr) (n cap s : Nat) (w : World) (hA : Lim w A n cap l) (hs : s < 32) (hn : n + 1 ≤ 1000000) :
    Calls Tryz.prog 117 #[.slice A n cap, .int .u64 (s : Int)] w fun e w' => ∃ V L, e = .returned V ∧ L.length = n + 1 ∧ Lb L ∧ val L = val l * 2 ^ s ∧ OwnL w' w.heap.size V L ∧ Below w.heap.size w w' := by
  have la := hA.len
  obtain ⟨i0', hi, hzz⟩ := Option.map_eq_some_iff.1 info4
  simp only [Prod.mk.injEq] at hzz
  obtain ⟨hz0, hz1, hz2⟩ := hzz
  have HA := Lib.hid hA
  clear hA
  go_enter Tryz.func117, Tryz.ntmps117
  go_wp2
  have hA0 : OwnL w w.heap.size (.slice none 0 0) [] := World.ownsRow_nil _ _ _ _
  have hB0 := Below.refl w.heap.size w
  go_loopw [5, 6, 7] (fun V c i wr => ∃ (k cc : Nat) (L : List Nat), k ≤ n ∧ c = .int .u64 cc ∧ i = .int .i64 k ∧ FIn l L s k cc ∧ OwnL wr w.heap.size V L ∧ Below w.heap.size w wr) (fun _ _ i _ => n - (intOf i).toNat)
  case atStart => exact ⟨0, 0, [], by omega, rfl, rfl, FIn.zero l s, hA0, hB0⟩
  case round =>
    clear hA0 hB0
    obtain ⟨k, c, L, hk, rfl, rfl, hF, hO, hB⟩ := hrel
    have hL := hF.len
    have hc := hF.c1
    have hsz := hB.size
    have h31 : (2 : Nat) ^ s ≤ 2147483648 := Nat.pow_le_pow_right (show 0 < 2 by decide) (show s ≤ 31 by omega)
    have HO := Lib.hid hO
    have HB := Lib.hid hB
    clear hO hB
    by_cases hlt : k < n
    · have hAw := HA.out.below HB.out
      obtain ⟨bA, oA, rfl, -, -⟩ := hAw.row (by omega)
      have cA := hAw.cell (k := k) (by omega)
      have i1 : (k : Int) < (n : Int) := by omega
      have xb := lb_get hAw.lb (k := k) (by omega)
      have st := hF.step (by omega) hAw.lb
      generalize l[k]'(by omega) = x at cA xb st
      have hp : x * 2 ^ s ≤ 4294967295 * 2147483648 := Nat.mul_le_mul (by omega) h31
      have r1 : IntKind.u64.wrap ((x : Int) * 2 ^ s) = ((x * 2 ^ s : Nat) : Int) := by
        rw [show (x : Int) * 2 ^ s = ((x * 2 ^ s : Nat) : Int) by rw [Int.natCast_mul, Int.natCast_pow]; rfl]
        exact IntWalk.u64_in _ (by omega)
      generalize x * 2 ^ s = p at *
      have ev : (((c + p) % 4294967296 : Nat) : Int) = ((c : Int) + (p : Int)) % 4294967296 := by omega
      have ed : (((c + p) / 4294967296 : Nat) : Int) = ((c : Int) + (p : Int)) / 4294967296 := by omega
      have St := Lib.hid st
      have Ev := Lib.hid ev
      have Ed := Lib.hid ed
      clear st hF hAw ev ed
      go_wp2_with (at_builtin; refine wpList_append_own _ rfl (.tmp 23) (.tmp 26) 27 rfl w.heap.size 91 i0' (.int .u32 0) 1 4 Tryz.underlying27 hi hz0 hz1 hz2 rfl (by decide) _ _ _ rfl (HO.out.alloc _) ⟨wr.heap.size, 0, none⟩ 1 1 [.int .u32 (((c : Int) + (p : Int)) % 4294967296)] rfl rfl (by intro j u hj; match j, hj with | 0, hj => (simp at hj; subst hj; simp [Addr.add])) (by intro u hu; simp at hu; subst hu; rfl) (by unfold maxLen; omega) (by omega) (by simp; omega) ?_)
      intro v' w1 hown' hgrow _
      have hB1 := (HB.out.alloc (Nat.le_of_lt_succ (by omega)) (.cells #[.int .u32 (((c : Int) + (p : Int)) % 4294967296)] 91)).grown hgrow (by simp; omega) (fun k e => (HO.out.lt k e).1)
      rw [← Ev.out] at hown'
      have Fin := Lib.hid (show ∃ (k' c' : Nat) (L' : List Nat), k' ≤ n ∧ Value.int .u64 (((c : Int) + (p : Int)) / 4294967296) = .int .u64 (c' : Int) ∧ Value.int .i64 ((k : Int) + 1) = .int .i64 (k' : Int) ∧ FIn l L' s k' c' ∧ OwnL w1 w.heap.size v' L' ∧ Below w.heap.size w w1 from
        ⟨k + 1, (c + p) / 4294967296, _, by omega, by rw [Ed.out], by simp, St.out, own_snoc (by rw [hL]; exact hown'), hB1⟩)
      clear hown' hgrow hB1
      go_wp2
      go_roundw
      case rel => exact Fin.out
      case measure => simp [intOf]; omega
    · obtain rfl : k = n := by omega
      have hcb : (c : Int) % 4294967296 = c := by omega
      have ff : val (L ++ [c]) = val l * 2 ^ s ∧ Lb (L ++ [c]) ∧ (L ++ [c]).length = l.length + 1 := by rw [← la] at hF; exact hF.fin (by omega)
      have FF := Lib.hid ff
      clear ff hF
      go_wp2_with (at_builtin; refine wpList_append_own _ rfl (.tmp 30) (.tmp 33) 27 rfl w.heap.size 91 i0' (.int .u32 0) 1 4 Tryz.underlying27 hi hz0 hz1 hz2 rfl (by decide) _ _ _ rfl (HO.out.alloc _) ⟨wr.heap.size, 0, none⟩ 1 1 [.int .u32 (c : Int)] rfl rfl (by intro j u hj; match j, hj with | 0, hj => (simp at hj; subst hj; simp [Addr.add])) (by intro u hu; simp at hu; subst hu; rfl) (by unfold maxLen; omega) (by omega) (by simp; omega) ?_)
      intro v' w1 hown' hgrow _
      have hB1 := (HB.out.alloc (Nat.le_of_lt_succ (by omega)) (.cells #[.int .u32 (c : Int)] 91)).grown hgrow (by simp; omega) (fun k e => (HO.out.lt k e).1)
      have Fin := Lib.hid (show ∃ V L', Ending.returned v' = .returned V ∧ L'.length = k + 1 ∧ Lb L' ∧ val L' = val l * 2 ^ s ∧ OwnL w1 w.heap.size V L' ∧ Below w.heap.size w w1 from ⟨v', L ++ [c], rfl, by rw [FF.out.2.2, la], FF.out.2.1, FF.out.1, own_snoc (by rw [hL]; exact hown'), hB1⟩)
      clear hown' hgrow hB1
      go_wp2
      refine bodyPost_ret (results_tmp rfl _ _ _) rfl ?_
      exact Fin.out
end Wd
end Go.Proofs.YtmgehfakcnmdnaaGreatDoor
/-
  The reference's whole numbers: short.
-/
namespace Go.Proofs.YtmgehfakcnmdnaaGreatDoor
namespace Wd
open Go.RowKit Lw

/-- Two rows of limbs. -/
def TwoPost (w : World) (q r : List Nat) (e : Ending) (w' : World) : Prop :=
  ∃ A ca D cd, e = .returned (.tuple #[.slice A q.length ca, .slice D r.length cd]) ∧ Lim w' A q.length ca q ∧ Lim w' D r.length cd r ∧ Adr w' A ca ∧ Adr w' D cd ∧ Below w.heap.size w w'
theorem cast_mod {q : Nat} (h : q < 4294967296) : (q : Int) = (q : Int) % 4294967296 := by omega
set_option maxRecDepth 100000 in
set_option maxHeartbeats 4000000 in
theorem rshort_walk (l : List Nat) (A : Option Addr) (n cap d : Nat) (w : World) (hA : Lim w A n cap l) (hd0 : 0 < d) (hd : d < 4294967296) :
    Calls Tryz.prog 116 #[.slice A n cap, .int .u32 (d : Int)] w (TwoPost w (canon (val l / d)) (canon (val l % d))) := by
  have la := hA.len
  have HA := Lib.hid hA
  have hmk := make_nu n hA.sm
  have sa := hA.sm
  clear hA
  go_enter Tryz.func116, Tryz.ntmps116
  go_wp2
  have st0 : DIn l (List.replicate n 0) d n 0 := by have := DIn.zero l hd0; rwa [la] at this
  have hA0 := Arr.nu w n
  have hB0 := (Below.refl w.heap.size w).alloc (Nat.le_refl _) (.cells (nu n) 91)
  clear hmk
  go_loopw [7, 8] (fun c i wr => ∃ (k r : Nat) (L : List Nat), k ≤ n ∧ c = .int .u64 r ∧ i = .int .i64 ((k : Int) - 1) ∧ DIn l L d k r ∧ Arr wr w.heap.size L ∧ Below w.heap.size w wr) (fun _ i _ => (intOf i + 1).toNat)
  case atStart => exact ⟨n, 0, _, by omega, rfl, rfl, st0, hA0, hB0⟩
  case round =>
    clear hA0 hB0 st0
    obtain ⟨k, r, L, hk, rfl, rfl, hD, hR, hB⟩ := hrel
    by_cases hlt : 0 < k
    · obtain ⟨j, rfl⟩ : ∃ j, k = j + 1 := ⟨k - 1, by omega⟩
      have ej : ((j + 1 : Nat) : Int) - 1 = (j : Int) := by omega
      simp only [ej]
      have hAw := HA.out.below hB
      obtain ⟨bA, oA, rfl, -, -⟩ := hAw.row (by omega)
      have cA := hAw.cell (k := j) (by omega)
      have xb := lb_get hAw.lb (k := j) (by omega)
      have rb := hD.r1
      have ll := hD.len
      have cL := hR.cell (k := j) (by omega)
      have fL := hR.free j
      have st := hD.step (by omega) hAw.lb
      have qb := quo_lt rb xb
      generalize l[j]'(by omega) = x at cA xb st qb
      generalize L[j]'(by omega) = o at cL
      have ev : (((r * 4294967296 + x) / d : Nat) : Int) = ((r : Int) * 4294967296 + (x : Int)) / (d : Int) % 4294967296 := by
        rw [show ((r : Int) * 4294967296 + (x : Int)) = ((r * 4294967296 + x : Nat) : Int) by omega, ← Int.natCast_ediv]
        exact cast_mod qb
      have em : (((r * 4294967296 + x) % d : Nat) : Int) = ((r : Int) * 4294967296 + (x : Int)) % (d : Int) := by rw [Int.natCast_emod, show ((r * 4294967296 + x : Nat) : Int) = ((r : Int) * 4294967296 + (x : Int)) by omega]
      have rs := hR.set j ((r * 4294967296 + x) / d)
      have bs : Below w.heap.size w (wr.setCell ⟨w.heap.size, j, none⟩ (.int .u32 (((r * 4294967296 + x) / d : Nat) : Int))) := hB.setCell (p := ⟨w.heap.size, j, none⟩) (Nat.le_refl _) _
      rw [ev] at rs bs
      have Fin := Lib.hid (show ∃ (k' r' : Nat) (L' : List Nat), k' ≤ n ∧ Value.int .u64 (((r : Int) * 4294967296 + (x : Int)) % (d : Int)) = .int .u64 (r' : Int) ∧ Value.int .i64 ((j : Int) - 1) = .int .i64 ((k' : Int) - 1) ∧ DIn l L' d k' r' ∧ Arr (wr.setCell ⟨w.heap.size, j, none⟩ (.int .u32 (((r : Int) * 4294967296 + (x : Int)) / (d : Int) % 4294967296))) w.heap.size L' ∧ Below w.heap.size w (wr.setCell ⟨w.heap.size, j, none⟩ (.int .u32 (((r : Int) * 4294967296 + (x : Int)) / (d : Int) % 4294967296))) from
        ⟨j, _, _, by omega, by rw [← em], rfl, st, rs, bs⟩)
      clear st rs bs hD hR hAw hB ev em
      have j1 : (j : Int) < (n : Int) := by omega
      go_wp2_with fail
      go_roundw
      case rel => exact Fin.out
      case measure => simp [intOf]
    · obtain rfl : k = 0 := by omega
      have rb := hD.r1
      have ll := hD.len
      have F := hD.fin
      obtain ⟨F1, F2⟩ := F
      have t1 := rtrim_row L w.heap.size 0 n n wr (by have := hR.lim hD.lb (cap := n) (by omega) (by omega); rwa [ll, la] at this) hR.lt
      rw [F1] at t1
      have t2 := fun w1 : World => rtrim_row [r] w1.heap.size 0 1 1 (w1.alloc (.cells #[.int .u32 (r : Int)] 91)) (by have := Lim.new w1 [r] 91 1 (by intro x hx; simp at hx; omega) (by simp) (by simp); simpa [us] using this) (by simp)
      have e1 : val [r] = val l % d := by simp [val, F2]
      rw [e1] at t2
      have T1 := Lib.hid t1
      have T2 := Lib.hid t2
      have HB := Lib.hid hB
      have r32 : (r : Int) % 4294967296 = r := by omega
      clear t1 t2 hD hR hB F1 F2 e1
      go_wp2_with fail
      refine T1.out.mono ?_
      rintro e w1 ⟨g, cp, rfl, -, hL1, hg1, hg2, hb1⟩
      have B1 := Lib.hid (below_then HB.out hb1)
      have L1 := Lib.hid hL1
      clear hb1 hL1
      go_wp2_with fail
      refine (T2.out w1).mono ?_
      rintro e w2 ⟨g', cp', rfl, -, hL2, hg3, hg4, hb2⟩
      have ba := (Below.refl w1.heap.size w1).alloc (Nat.le_refl _) (.cells #[.int .u32 (r : Int)] 91)
      have b12 := below_then ba hb2
      have Fin := Lib.hid (show TwoPost w (canon (val l / d)) (canon (val l % d)) (.returned (.tuple #[.slice (some ⟨g, 0, none⟩) (canon (val l / d)).length cp, .slice (some ⟨g', 0, none⟩) (canon (val l % d)).length cp'])) w2 from
        ⟨_, cp, _, cp', rfl, L1.out.below b12, hL2, Or.inl ⟨g, 0, rfl, Nat.lt_of_lt_of_le hg2 b12.size⟩, Or.inl ⟨g', 0, rfl, hg4⟩, below_then B1.out b12⟩)
      clear ba b12 hb2 hL2 B1 L1
      go_wp2
      refine bodyPost_ret (results_tmp2 rfl _ _ _) rfl ?_
      exact Fin.out
end Wd
end Go.Proofs.YtmgehfakcnmdnaaGreatDoor
/-
  Plain law of the reference's digit: a guess that is too large, the adding back; the window of limbs that it writes.
-/
namespace Go.Proofs.YtmgehfakcnmdnaaGreatDoor
namespace Wd

theorem and_mask32 (a : Nat) (ha : a < 18446744073709551616) : bits .and .u64 (a : Int) 4294967295 = ((a % 4294967296 : Nat) : Int) := by
  have h := u64_and_nat a 4294967295 ha (by decide)
  rw [show ((4294967295 : Nat) : Int) = 4294967295 from rfl] at h
  rw [h]
  congr 1
  exact Nat.and_two_pow_sub_one_eq_mod a 32
theorem guess_down {u v : List Nat} {p q r : Nat} (hu : u.length = p + 3) (hv : v.length = p + 2) (lu : Lb u) (ht : u[p + 2] * 4294967296 + u[p + 1] = q * v[p + 1] + r) (h : r * 4294967296 + u[p] < q * v[p]) : val u < q * val v := by
  have e1 := val_split' (l := u) (i := p) (by omega)
  have e2 := val_drop (l := u) (i := p) (by omega)
  have e3 := val_drop (l := u) (i := p + 1) (by omega)
  have e4 := val_drop (l := u) (i := p + 2) (by omega)
  rw [List.drop_of_length_le (show u.length ≤ p + 2 + 1 by omega)] at e4
  have f1 := val_split' (l := v) (i := p) (by omega)
  have f2 := val_drop (l := v) (i := p) (by omega)
  have f3 := val_drop (l := v) (i := p + 1) (by omega)
  rw [List.drop_of_length_le (show v.length ≤ p + 1 + 1 by omega)] at f3
  have lt := val_take_lt lu (show p ≤ u.length by omega)
  simp only [val, Nat.mul_zero, Nat.add_zero] at e4 f3
  rw [e4] at e3
  rw [e3] at e2
  rw [f3] at f2
  generalize u[p + 2] = u2 at *
  generalize u[p + 1] = u1 at *
  generalize u[p] = u0 at *
  generalize v[p + 1] = v1 at *
  generalize v[p] = v0 at *
  rw [e1, e2, f1, f2]
  generalize val (u.take p) = x at *
  generalize val (v.take p) = y at *
  generalize 4294967296 ^ p = P at *
  have k1 : u0 + 4294967296 * (u1 + 4294967296 * u2) + 1 ≤ q * (v0 + 4294967296 * v1) := by
    have : q * (v0 + 4294967296 * v1) = q * v0 + 4294967296 * (q * v1) := by rw [Nat.mul_add, Nat.mul_left_comm]
    omega
  have k2 := Nat.mul_le_mul_left P k1
  have k3 : q * (y + P * (v0 + 4294967296 * v1)) = q * y + P * (q * (v0 + 4294967296 * v1)) := by rw [Nat.mul_add, Nat.mul_left_comm]
  rw [Nat.mul_add P, Nat.mul_one] at k2
  omega
/-- The window of limbs as it is written. -/
structure Wn (w : World) (g j n : Nat) (F r : List Nat) : Prop where
  row : Row w g (put F j n r)
  len : r.length = n + 1
  fits : j + n + 1 ≤ F.length
theorem put_win {F : List Nat} {j n : Nat} (h : j + n + 1 ≤ F.length) : put F j n (win F j n) = F := by
  rw [put, win]
  have e1 : F.drop (j + n + 1) = (F.drop j).drop (n + 1) := by rw [List.drop_drop]; rfl
  rw [e1, List.take_append_drop, List.take_append_drop]
theorem put_get {F r : List Nat} {j n i : Nat} (h : j + n + 1 ≤ F.length) (hr : r.length = n + 1) (hi : i < r.length) (h2 : j + i < (put F j n r).length) : (put F j n r)[j + i] = r[i] := by
  have hl : (F.take j).length = j := by simp; omega
  simp only [put]
  rw [List.getElem_append_right (by omega), List.getElem_append_left (by omega)]
  congr 1
  omega
theorem put_set {F r : List Nat} {j n i : Nat} (h : j + n + 1 ≤ F.length) (hr : r.length = n + 1) (hi : i < r.length) (x : Nat) : (put F j n r).set (j + i) x = put F j n (r.set i x) := by
  have hl : (F.take j).length = j := by simp; omega
  simp only [put]
  rw [List.set_append_right _ _ (by omega), List.set_append_left _ _ (by omega)]
  congr 3
  omega
theorem Wn.start {w : World} {g j n : Nat} {F : List Nat} (h : Row w g F) (hj : j + n + 1 ≤ F.length) : Wn w g j n F (win F j n) :=
  ⟨by rw [put_win hj]; exact h, win_len hj, hj⟩
theorem Wn.cell {w : World} {g j n : Nat} {F r : List Nat} (h : Wn w g j n F r) {i : Nat} (hi : i < r.length) : w.cell? ⟨g, j + i, none⟩ = some (.int .u32 (r[i] : Int)) := by
  have hl := put_len h.fits h.len
  have h1 := h.len
  have h2 := h.fits
  rw [h.row.cell (k := j + i) (by omega), put_get h.fits h.len hi]
theorem Wn.free {w : World} {g j n : Nat} {F r : List Nat} (h : Wn w g j n F r) (k : Nat) : w.frozen? ⟨g, k, none⟩ = false := h.row.free k
theorem Wn.set {w : World} {g j n : Nat} {F r : List Nat} (h : Wn w g j n F r) {i : Nat} (hi : i < r.length) (x : Nat) : Wn (w.setCell ⟨g, j + i, none⟩ (.int .u32 (x : Int))) g j n F (r.set i x) := by
  refine ⟨?_, by simpa using h.len, h.fits⟩
  rw [← put_set h.fits h.len hi]
  exact h.row.set _ _
theorem Wn.drewN {w : World} {g j n : Nat} {F r : List Nat} (h : Wn w g j n F r) (k : Nat) : Wn (w.drewN k) g j n F r := ⟨h.row, h.len, h.fits⟩
theorem grown_drewN {w w' : World} {row : Option Nat} (h : w.grownBy w' row) (k : Nat) : w.grownBy (w'.drewN k) row := ⟨h.os, h.tape, h.output, h.size, h.block⟩
theorem grown_set {w w' : World} {g : Nat} (h : w.grownBy w' (some g)) (o : Nat) (x : Value) : w.grownBy (w'.setCell ⟨g, o, none⟩ x) (some g) := h.trans (grownBy_set2 _ _ _ _)
/-- What is left, with a borrow. -/
structure AI (U v : List Nat) (q b : Nat) (r : List Nat) : Prop where
  len : r.length = U.length
  lb : Lb r
  b1 : b ≤ 1
  v : val r + q * val v = val U + b * 4294967296 ^ U.length
/-- The adding back. -/
structure AIn (r0 v r : List Nat) (i c : Nat) : Prop where
  len : r.length = r0.length
  lb : Lb r
  c1 : c ≤ 1
  v : val (r.take i) + c * 4294967296 ^ i = val (r0.take i) + val (v.take i)
  d : r.drop i = r0.drop i
theorem AIn.zero {r0 : List Nat} (v : List Nat) (h : Lb r0) : AIn r0 v r0 0 0 := ⟨rfl, h, by omega, by simp [val], rfl⟩
theorem AIn.step {r0 v r : List Nat} {i c : Nat} (h : AIn r0 v r i c) (hi : i < r.length) (hv : Lb v) : AIn r0 v (r.set i ((c + r[i] + at0 v i) % 4294967296)) (i + 1) ((c + r[i] + at0 v i) / 4294967296) := by
  have hl := h.len
  have hw := lb_get h.lb hi
  have hx := at0_lt hv i
  have hc := h.c1
  have e0 := drop_get h.d hi (by omega)
  refine ⟨by simpa using hl, lb_set h.lb _ _ (Nat.mod_lt _ (by decide)), by omega, ?_, ?_⟩
  · have hvv := h.v
    rw [val_take_set _ hi, val_take r0 i (by omega), val_take0, ← e0, Nat.pow_succ]
    generalize r[i] = x at *
    generalize at0 v i = y at *
    have e := split_pow (4294967296 ^ i) (c + x + y)
    have e2 : 4294967296 ^ i * (c + x + y) = c * 4294967296 ^ i + 4294967296 ^ i * x + 4294967296 ^ i * y := by rw [Nat.mul_add, Nat.mul_add, Nat.mul_comm _ c]
    omega
  · have e := congrArg (List.drop 1) h.d
    rw [List.drop_drop, List.drop_drop] at e
    rw [drop_set_gt _ _ (by omega)]
    exact e
theorem AI.pos {U v r : List Nat} {q : Nat} (h : AI U v q 1 r) (hV : 0 < val v) : val U / val v ≤ q - 1 ∧ 0 < q := by
  have h1 := val_lt r h.lb
  have hv := h.v
  rw [h.len] at h1
  have h2 : val U < q * val v := by omega
  have h3 : val U / val v < q := by rwa [Nat.div_lt_iff_lt_mul hV]
  generalize val U / val v = Q at *
  omega
theorem AI.next {U v r0 r : List Nat} {q c : Nat} (h : AI U v q 1 r0) (hn : AIn r0 v r U.length c) (hq : 0 < q) (hv : v.length ≤ U.length) : AI U v (q - 1) (1 - c) r := by
  have hl := hn.len
  have hl0 := h.len
  have h1 := h.v
  have h2 := hn.v
  have hc := hn.c1
  refine ⟨by omega, hn.lb, by omega, ?_⟩
  have t1 : r.take U.length = r := List.take_of_length_le (by omega)
  have t2 : r0.take U.length = r0 := List.take_of_length_le (by omega)
  have t3 : v.take U.length = v := List.take_of_length_le hv
  rw [t1, t2, t3] at h2
  obtain ⟨q, rfl⟩ : ∃ k, q = k + 1 := ⟨q - 1, by omega⟩
  rw [Nat.add_mul, Nat.one_mul] at h1
  simp only [Nat.add_sub_cancel]
  rcases Nat.le_one_iff_eq_zero_or_eq_one.1 hc with rfl | rfl
  · simp only [Nat.zero_mul, Nat.add_zero, Nat.sub_zero] at h2 ⊢
    omega
  · simp only [Nat.sub_self, Nat.zero_mul]
    omega
end Wd
end Go.Proofs.YtmgehfakcnmdnaaGreatDoor
