/-
  Lemmas and walks, texts joined: TKNt, TKAl, TKBt, TKCk, TKGr, TKOwn.
-/
import Derived.Deep.RegionHeld3
import Derived.LoopTactic
import Derived.OwnWalkIn
import Derived.Test.YtjgcbeihgeaimaaGreatDoorTa03
set_option linter.unusedSimpArgs false
set_option linter.unusedVariables false
/-
  The night: away.
-/
namespace Go.Proofs.YtjgcbeihgeaimaaGreatDoor
namespace Tw
open Go.RowKit Lw Tk _root_.Go.Proofs.YtjgcbeihgeaimaaGreatDoor.Op Ow

abbrev ntC (x : Option Addr) (n c : Nat) (u : Rl) : List Value := [.slice x n c, .int .i64 u.least, .int .i64 u.most, .int .i64 u.speed, .int .i64 u.off, .int .i64 u.count]
abbrev ntV (x : Option Addr) (n c : Nat) (u : Rl) : Value := .agg (ntC x n c u).toArray
theorem info2i : (Tryz.prog.info? 73).map (·.size) = some 2 := by kernel_rfl
set_option maxRecDepth 100000 in
set_option maxHeartbeats 4000000 in
theorem away_core (n c i j B off : Nat) (u : Rl) (a b : Ob) (w : World) (hi : i < n) (hj : j < n) (lt : B < w.heap.size) (ra : w.rangeAt B (off + i * 8) (obsC a)) (rb : w.rangeAt B (off + j * 8) (obsC b)) (hD : Dif a b)
    (r0 : -9223372036854775808 ≤ a.ra) (r1 : a.ra ≤ 9223372036854775807) (r2 : -9223372036854775808 ≤ b.ra) (r3 : b.ra ≤ 9223372036854775807) :
    Calls Tryz.prog 34 #[ntV (some ⟨B, off, none⟩) n c u, .int .i64 i, .int .i64 j] w fun e w' => e = .returned (.tuple #[.agg #[.int .i64 (dX a b), .int .i64 (dY a b)], .int .i64 (dT a b)]) ∧ Below w.heap.size w w' := by
  have RA := Lib.hid (fun w' (hb : Below w.heap.size w w') => rangeAt_below ra hb lt)
  have RB := Lib.hid (fun w' (hb : Below w.heap.size w w') => rangeAt_below rb hb lt)
  have F0 := ((Fr.start w).alloc (ntC (some ⟨B, off, none⟩) n c u) 49).alloc [.int .i64 0, .int .i64 0] 73
  simp only [World.size_alloc] at F0
  have F0 := Lib.hid F0
  have i0 : (0 : Int) ≤ (i : Int) := by omega
  have i1 : (i : Int) < (n : Int) := by omega
  have j0 : (0 : Int) ≤ (j : Int) := by omega
  have j1 : (j : Int) < (n : Int) := by omega
  have DF := Lib.hid (fun w' => Turns.diff_any b.ra a.ra w' r2 r3 r0 r1)
  have DY := Lib.hid (show IntKind.i64.wrap (b.dec - a.dec) = dY a b from IntWalk.i64_in _ (by have := hD.y0; have := hD.y1; unfold dY at *; omega))
  have DT := Lib.hid (show IntKind.i64.wrap (b.t - a.t) = dT a b from IntWalk.i64_in _ (by have := hD.t0; have := hD.t1; unfold dT at *; omega))
  clear ra rb hD r0 r1 r2 r3
  go_enter Tryz.func34, Tryz.ntmps34
  go_wp2_with fail
  have KS := fun w' (h : Fr w [(w.heap.size + 1, [.int .i64 0, .int .i64 0]), (w.heap.size, ntC (some ⟨B, off, none⟩) n c u)] w') => (show w'.cell? ⟨w.heap.size, 0, none⟩ = some (.slice (some ⟨B, off, none⟩) n c) ∧ w'.rangeAt B (off + i * 8) (obsC a) ∧ w'.rangeAt B (off + j * 8) (obsC b) from ⟨h.cell 1 0 rfl rfl, RA.out _ h.below, RB.out _ h.below⟩)
  refine wp_region_held_drew (S := fun w' => w'.cell? ⟨w.heap.size, 0, none⟩ = some (.slice (some ⟨B, off, none⟩) n c) ∧ w'.rangeAt B (off + i * 8) (obsC a) ∧ w'.rangeAt B (off + j * 8) (obsC b)) (by kernel_rfl) (KS _ F0.out.drew) (fun hHeld => ?_)
  have FQ := Lib.hid F0.out.drew
  clear F0
  generalize ((w.alloc (.cells (ntC (some ⟨B, off, none⟩) n c u).toArray 49)).alloc (.cells [Value.int .i64 0, .int .i64 0].toArray 73)).drew = wd at *
  refine wpAnyH_take (i := 0) (oi := ?oi0x1) (v := ?v0x1) ?hi0x1 (by kernel_rfl) (by kernel_rfl) (by kernel_rfl) ?hq0x1 ?hy0x1 hHeld ?rest0x1
  case hi0x1 => ((try simp only [List.getElem?_toArray, List.getElem?_cons_succ, List.getElem?_cons_zero]); (try rfl))
  case hq0x1 => exact fun _ _ _ h => h
  case hy0x1 => exact Or.inl ⟨by rfl, by intro w hSw; clear hSw; go_simp; try with_reducible rfl⟩
  try simp only [Act.put, List.setIfInBounds_toArray, List.set_cons_zero, List.set_cons_succ]
  refine wpAnyH_take (i := 1) (oi := ?oi1x2) (v := ?v1x2) ?hi1x2 (by kernel_rfl) (by kernel_rfl) (by kernel_rfl) ?hq1x2 ?hy1x2 hHeld ?rest1x2
  case hi1x2 => ((try simp only [List.getElem?_toArray, List.getElem?_cons_succ, List.getElem?_cons_zero]); (try rfl))
  case hq1x2 => exact fun _ _ _ h => h
  case hy1x2 => exact Or.inl ⟨by rfl, by intro w hSw; obtain ⟨s0, sa, sb⟩ := hSw; clear sa sb; go_simp; try with_reducible rfl⟩
  try simp only [Act.put, List.setIfInBounds_toArray, List.set_cons_zero, List.set_cons_succ]
  refine wpAnyH_take (i := 2) (oi := ?oi2x3) (v := ?v2x3) ?hi2x3 (by kernel_rfl) (by kernel_rfl) (by kernel_rfl) ?hq2x3 ?hy2x3 hHeld ?rest2x3
  case hi2x3 => ((try simp only [List.getElem?_toArray, List.getElem?_cons_succ, List.getElem?_cons_zero]); (try rfl))
  case hq2x3 => exact fun _ _ _ h => h
  case hy2x3 => exact Or.inl ⟨by rfl, by intro w hSw; clear hSw; go_simp; try with_reducible rfl⟩
  try simp only [Act.put, List.setIfInBounds_toArray, List.set_cons_zero, List.set_cons_succ]
  refine wpAnyH_take (i := 3) (oi := ?oi3x4) (v := ?v3x4) ?hi3x4 (by kernel_rfl) (by kernel_rfl) (by kernel_rfl) ?hq3x4 ?hy3x4 hHeld ?rest3x4
  case hi3x4 => ((try simp only [List.getElem?_toArray, List.getElem?_cons_succ, List.getElem?_cons_zero]); (try rfl))
  case hq3x4 => exact fun _ _ _ h => h
  case hy3x4 => exact Or.inl ⟨by rfl, by intro w hSw; clear hSw; go_simp; try with_reducible rfl⟩
  try simp only [Act.put, List.setIfInBounds_toArray, List.set_cons_zero, List.set_cons_succ]
  refine wpAnyH_take (i := 4) (oi := ?oi4x5) (v := ?v4x5) ?hi4x5 (by kernel_rfl) (by kernel_rfl) (by kernel_rfl) ?hq4x5 ?hy4x5 hHeld ?rest4x5
  case hi4x5 => ((try simp only [List.getElem?_toArray, List.getElem?_cons_succ, List.getElem?_cons_zero]); (try rfl))
  case hq4x5 => exact fun _ _ _ h => h
  case hy4x5 =>
    refine' yieldsIf_load_mid ?_ 44 (.tmp 13) ?_ B (off + i * 8) ?_ (obsC a) _ ?_ Tryz.underlying44 ?_ info8
    · rfl
    · rfl
    · rfl
    · exact fun _ h => h.2.1
    · rfl
  try simp only [Act.put, List.setIfInBounds_toArray, List.set_cons_zero, List.set_cons_succ]
  refine wpAnyH_take (i := 5) (oi := ?oi5x6) (v := ?v5x6) ?hi5x6 (by kernel_rfl) (by kernel_rfl) (by kernel_rfl) ?hq5x6 ?hy5x6 hHeld ?rest5x6
  case hi5x6 => ((try simp only [List.getElem?_toArray, List.getElem?_cons_succ, List.getElem?_cons_zero]); (try rfl))
  case hq5x6 => exact fun _ _ _ h => h
  case hy5x6 => exact Or.inl ⟨by rfl, by intro w hSw; clear hSw; go_simp; try with_reducible rfl⟩
  try simp only [Act.put, List.setIfInBounds_toArray, List.set_cons_zero, List.set_cons_succ]
  refine wpAnyH_take (i := 6) (oi := ?oi6x7) (v := ?v6x7) ?hi6x7 (by kernel_rfl) (by kernel_rfl) (by kernel_rfl) ?hq6x7 ?hy6x7 hHeld ?rest6x7
  case hi6x7 => ((try simp only [List.getElem?_toArray, List.getElem?_cons_succ, List.getElem?_cons_zero]); (try rfl))
  case hq6x7 => exact fun _ _ _ h => h
  case hy6x7 => exact Or.inl ⟨by rfl, by intro w hSw; obtain ⟨s0, sa, sb⟩ := hSw; clear sa sb; go_simp; try with_reducible rfl⟩
  try simp only [Act.put, List.setIfInBounds_toArray, List.set_cons_zero, List.set_cons_succ]
  refine wpAnyH_take (i := 7) (oi := ?oi7x8) (v := ?v7x8) ?hi7x8 (by kernel_rfl) (by kernel_rfl) (by kernel_rfl) ?hq7x8 ?hy7x8 hHeld ?rest7x8
  case hi7x8 => ((try simp only [List.getElem?_toArray, List.getElem?_cons_succ, List.getElem?_cons_zero]); (try rfl))
  case hq7x8 => exact fun _ _ _ h => h
  case hy7x8 => exact Or.inl ⟨by rfl, by intro w hSw; clear hSw; go_simp; try with_reducible rfl⟩
  try simp only [Act.put, List.setIfInBounds_toArray, List.set_cons_zero, List.set_cons_succ]
  refine wpAnyH_take (i := 8) (oi := ?oi8x9) (v := ?v8x9) ?hi8x9 (by kernel_rfl) (by kernel_rfl) (by kernel_rfl) ?hq8x9 ?hy8x9 hHeld ?rest8x9
  case hi8x9 => ((try simp only [List.getElem?_toArray, List.getElem?_cons_succ, List.getElem?_cons_zero]); (try rfl))
  case hq8x9 => exact fun _ _ _ h => h
  case hy8x9 => exact Or.inl ⟨by rfl, by intro w hSw; clear hSw; go_simp; try with_reducible rfl⟩
  try simp only [Act.put, List.setIfInBounds_toArray, List.set_cons_zero, List.set_cons_succ]
  refine wpAnyH_take (i := 9) (oi := ?oi9x10) (v := ?v9x10) ?hi9x10 (by kernel_rfl) (by kernel_rfl) (by kernel_rfl) ?hq9x10 ?hy9x10 hHeld ?rest9x10
  case hi9x10 => ((try simp only [List.getElem?_toArray, List.getElem?_cons_succ, List.getElem?_cons_zero]); (try rfl))
  case hq9x10 => exact fun _ _ _ h => h
  case hy9x10 =>
    refine' yieldsIf_load_mid ?_ 44 (.tmp 18) ?_ B (off + j * 8) ?_ (obsC b) _ ?_ Tryz.underlying44 ?_ info8
    · rfl
    · rfl
    · rfl
    · exact fun _ h => h.2.2
    · rfl
  try simp only [Act.put, List.setIfInBounds_toArray, List.set_cons_zero, List.set_cons_succ]
  refine wpAnyH_ready (rs := [10, 11]) (by kernel_rfl) (by simp) ?_
  refine AllReadyH.cons rfl (fun K' hK => ?_) (AllReadyH.cons rfl (fun K' hK => ?_) AllReadyH.nil)
  ·
    clear hHeld
    go_simp
    have FN := Lib.hid (FQ.out.alloc (obsC zeroO) 44)
    refine hK.out _ _ (KS _ FN.out.tail) (fun hHeld => ?_)
    clear hK
    try simp only [Act.put, List.setIfInBounds_toArray, List.set_cons_zero, List.set_cons_succ]
    refine wpAnyH_ready (rs := [11]) (by kernel_rfl) (by simp) ?_
    refine AllReadyH.cons rfl (fun K' hK => ?_) AllReadyH.nil
    clear hHeld
    go_simp
    have FN := Lib.hid (FN.out.alloc (obsC zeroO) 44)
    refine hK.out _ _ (KS _ FN.out.tail.tail) (fun hHeld => ?_)
    clear hK
    try simp only [Act.put, List.setIfInBounds_toArray, List.set_cons_zero, List.set_cons_succ]
    refine wpAnyH_ready (rs := [12]) (by kernel_rfl) (by simp) ?_
    refine AllReadyH.cons rfl (fun K' hK => ?_) AllReadyH.nil
    clear hHeld FN
    go_simp
    have FN := Lib.hid ((FQ.out.alloc (obsC a) 44).alloc (obsC zeroO) 44)
    refine hK.out _ _ (KS _ FN.out.tail.tail) (fun hHeld => ?_)
    clear hK
    try simp only [Act.put, List.setIfInBounds_toArray, List.set_cons_zero, List.set_cons_succ]
    refine wpAnyH_ready (rs := [13]) (by kernel_rfl) (by simp) ?_
    refine AllReadyH.cons rfl (fun K' hK => ?_) AllReadyH.nil
    clear hHeld FN
    go_simp
    have FN := Lib.hid ((FQ.out.alloc (obsC a) 44).alloc (obsC b) 44)
    refine hK.out _ _ (KS _ FN.out.tail.tail) (fun hHeld => ?_)
    clear hK
    try simp only [Act.put, List.setIfInBounds_toArray, List.set_cons_zero, List.set_cons_succ]
    have FN := FN.out
    simp only [World.size_alloc] at FN
    have FN : Hid (Fr w [((wd.heap.size + 1), obsC b), (wd.heap.size, obsC a), (w.heap.size + 1, [.int .i64 0, .int .i64 0]), (w.heap.size, ntC (some ⟨B, off, none⟩) n c u)] _) := Lib.hid FN
    generalize (wd.alloc (.cells (obsC a).toArray 44)).alloc (.cells (obsC b).toArray 44) = wc at *
    refine wpAnyH_done (by kernel_rfl) ?_ _
    clear hHeld
    clear KS FQ RA RB i0 i1 j0 j1
    go_wp2_with fail
    have KS := fun w' rs (h : Fr w [((wd.heap.size + 1), obsC b), (wd.heap.size, obsC a), (w.heap.size + 1, rs), (w.heap.size, ntC (some ⟨B, off, none⟩) n c u)] w') => (show w'.cell? ⟨(wd.heap.size + 1), 2, none⟩ = some (.int .i64 b.t) ∧ w'.cell? ⟨(wd.heap.size + 1), 3, none⟩ = some (.int .i64 b.ra) ∧ w'.cell? ⟨(wd.heap.size + 1), 4, none⟩ = some (.int .i64 b.dec) ∧ w'.cell? ⟨wd.heap.size, 2, none⟩ = some (.int .i64 a.t) ∧ w'.cell? ⟨wd.heap.size, 3, none⟩ = some (.int .i64 a.ra) ∧ w'.cell? ⟨wd.heap.size, 4, none⟩ = some (.int .i64 a.dec) from ⟨h.cell 0 2 rfl rfl, h.cell 0 3 rfl rfl, h.cell 0 4 rfl rfl, h.cell 1 2 rfl rfl, h.cell 1 3 rfl rfl, h.cell 1 4 rfl rfl⟩)
    refine wp_region_held_drew (S := fun w' => w'.cell? ⟨(wd.heap.size + 1), 2, none⟩ = some (.int .i64 b.t) ∧ w'.cell? ⟨(wd.heap.size + 1), 3, none⟩ = some (.int .i64 b.ra) ∧ w'.cell? ⟨(wd.heap.size + 1), 4, none⟩ = some (.int .i64 b.dec) ∧ w'.cell? ⟨wd.heap.size, 2, none⟩ = some (.int .i64 a.t) ∧ w'.cell? ⟨wd.heap.size, 3, none⟩ = some (.int .i64 a.ra) ∧ w'.cell? ⟨wd.heap.size, 4, none⟩ = some (.int .i64 a.dec)) (by kernel_rfl) (KS _ _ FN.out.drew) (fun hHeld => ?_)
    have FN := Lib.hid FN.out.drew
    generalize wc.drew = we at *
    have dy := DY.out
    have dt := DT.out
    refine wpAnyH_take (i := 0) (oi := ?oi0x11) (v := ?v0x11) ?hi0x11 (by kernel_rfl) (by kernel_rfl) (by kernel_rfl) ?hq0x11 ?hy0x11 hHeld ?rest0x11
    case hi0x11 => ((try simp only [List.getElem?_toArray, List.getElem?_cons_succ, List.getElem?_cons_zero]); (try rfl))
    case hq0x11 => exact fun _ _ _ h => h
    case hy0x11 => exact Or.inl ⟨by rfl, by intro w hSw; clear hSw; go_simp; try with_reducible rfl⟩
    try simp only [Act.put, List.setIfInBounds_toArray, List.set_cons_zero, List.set_cons_succ]
    refine wpAnyH_take (i := 1) (oi := ?oi1x12) (v := ?v1x12) ?hi1x12 (by kernel_rfl) (by kernel_rfl) (by kernel_rfl) ?hq1x12 ?hy1x12 hHeld ?rest1x12
    case hi1x12 => ((try simp only [List.getElem?_toArray, List.getElem?_cons_succ, List.getElem?_cons_zero]); (try rfl))
    case hq1x12 => exact fun _ _ _ h => h
    case hy1x12 => exact Or.inl ⟨by rfl, by intro w hSw; obtain ⟨s0, s1, s2, s3, s4, s5⟩ := hSw; go_simp; try with_reducible rfl⟩
    try simp only [Act.put, List.setIfInBounds_toArray, List.set_cons_zero, List.set_cons_succ]
    refine wpAnyH_take (i := 2) (oi := ?oi2x13) (v := ?v2x13) ?hi2x13 (by kernel_rfl) (by kernel_rfl) (by kernel_rfl) ?hq2x13 ?hy2x13 hHeld ?rest2x13
    case hi2x13 => ((try simp only [List.getElem?_toArray, List.getElem?_cons_succ, List.getElem?_cons_zero]); (try rfl))
    case hq2x13 => exact fun _ _ _ h => h
    case hy2x13 => exact Or.inl ⟨by rfl, by intro w hSw; clear hSw; go_simp; try with_reducible rfl⟩
    try simp only [Act.put, List.setIfInBounds_toArray, List.set_cons_zero, List.set_cons_succ]
    refine wpAnyH_take (i := 3) (oi := ?oi3x14) (v := ?v3x14) ?hi3x14 (by kernel_rfl) (by kernel_rfl) (by kernel_rfl) ?hq3x14 ?hy3x14 hHeld ?rest3x14
    case hi3x14 => ((try simp only [List.getElem?_toArray, List.getElem?_cons_succ, List.getElem?_cons_zero]); (try rfl))
    case hq3x14 => exact fun _ _ _ h => h
    case hy3x14 => exact Or.inl ⟨by rfl, by intro w hSw; obtain ⟨s0, s1, s2, s3, s4, s5⟩ := hSw; go_simp; try with_reducible rfl⟩
    try simp only [Act.put, List.setIfInBounds_toArray, List.set_cons_zero, List.set_cons_succ]
    refine wpAnyH_take (i := 5) (oi := ?oi5x15) (v := ?v5x15) ?hi5x15 (by kernel_rfl) (by kernel_rfl) (by kernel_rfl) ?hq5x15 ?hy5x15 hHeld ?rest5x15
    case hi5x15 => ((try simp only [List.getElem?_toArray, List.getElem?_cons_succ, List.getElem?_cons_zero]); (try rfl))
    case hq5x15 => exact fun _ _ _ h => h
    case hy5x15 => exact Or.inl ⟨by rfl, by intro w hSw; clear hSw; go_simp; try with_reducible rfl⟩
    try simp only [Act.put, List.setIfInBounds_toArray, List.set_cons_zero, List.set_cons_succ]
    refine wpAnyH_take (i := 6) (oi := ?oi6x16) (v := ?v6x16) ?hi6x16 (by kernel_rfl) (by kernel_rfl) (by kernel_rfl) ?hq6x16 ?hy6x16 hHeld ?rest6x16
    case hi6x16 => ((try simp only [List.getElem?_toArray, List.getElem?_cons_succ, List.getElem?_cons_zero]); (try rfl))
    case hq6x16 => exact fun _ _ _ h => h
    case hy6x16 => exact Or.inl ⟨by rfl, by intro w hSw; obtain ⟨s0, s1, s2, s3, s4, s5⟩ := hSw; go_simp; try with_reducible rfl⟩
    try simp only [Act.put, List.setIfInBounds_toArray, List.set_cons_zero, List.set_cons_succ]
    refine wpAnyH_take (i := 7) (oi := ?oi7x17) (v := ?v7x17) ?hi7x17 (by kernel_rfl) (by kernel_rfl) (by kernel_rfl) ?hq7x17 ?hy7x17 hHeld ?rest7x17
    case hi7x17 => ((try simp only [List.getElem?_toArray, List.getElem?_cons_succ, List.getElem?_cons_zero]); (try rfl))
    case hq7x17 => exact fun _ _ _ h => h
    case hy7x17 => exact Or.inl ⟨by rfl, by intro w hSw; clear hSw; go_simp; try with_reducible rfl⟩
    try simp only [Act.put, List.setIfInBounds_toArray, List.set_cons_zero, List.set_cons_succ]
    refine wpAnyH_take (i := 8) (oi := ?oi8x18) (v := ?v8x18) ?hi8x18 (by kernel_rfl) (by kernel_rfl) (by kernel_rfl) ?hq8x18 ?hy8x18 hHeld ?rest8x18
    case hi8x18 => ((try simp only [List.getElem?_toArray, List.getElem?_cons_succ, List.getElem?_cons_zero]); (try rfl))
    case hq8x18 => exact fun _ _ _ h => h
    case hy8x18 => exact Or.inl ⟨by rfl, by intro w hSw; obtain ⟨s0, s1, s2, s3, s4, s5⟩ := hSw; go_simp; try with_reducible rfl⟩
    try simp only [Act.put, List.setIfInBounds_toArray, List.set_cons_zero, List.set_cons_succ]
    refine wpAnyH_take (i := 9) (oi := ?oi9x19) (v := ?v9x19) ?hi9x19 (by kernel_rfl) (by kernel_rfl) (by kernel_rfl) ?hq9x19 ?hy9x19 hHeld ?rest9x19
    case hi9x19 => ((try simp only [List.getElem?_toArray, List.getElem?_cons_succ, List.getElem?_cons_zero]); (try rfl))
    case hq9x19 => exact fun _ _ _ h => h
    case hy9x19 => exact Or.inl ⟨by rfl, by intro w hSw; clear hSw; go_simp; (try rw [DY.out]); try with_reducible rfl⟩
    try simp only [Act.put, List.setIfInBounds_toArray, List.set_cons_zero, List.set_cons_succ]
    refine wpAnyH_take (i := 11) (oi := ?oi11x20) (v := ?v11x20) ?hi11x20 (by kernel_rfl) (by kernel_rfl) (by kernel_rfl) ?hq11x20 ?hy11x20 hHeld ?rest11x20
    case hi11x20 => ((try simp only [List.getElem?_toArray, List.getElem?_cons_succ, List.getElem?_cons_zero]); (try rfl))
    case hq11x20 => exact fun _ _ _ h => h
    case hy11x20 => exact Or.inl ⟨by rfl, by intro w hSw; clear hSw; go_simp; try with_reducible rfl⟩
    try simp only [Act.put, List.setIfInBounds_toArray, List.set_cons_zero, List.set_cons_succ]
    refine wpAnyH_take (i := 12) (oi := ?oi12x21) (v := ?v12x21) ?hi12x21 (by kernel_rfl) (by kernel_rfl) (by kernel_rfl) ?hq12x21 ?hy12x21 hHeld ?rest12x21
    case hi12x21 => ((try simp only [List.getElem?_toArray, List.getElem?_cons_succ, List.getElem?_cons_zero]); (try rfl))
    case hq12x21 => exact fun _ _ _ h => h
    case hy12x21 => exact Or.inl ⟨by rfl, by intro w hSw; obtain ⟨s0, s1, s2, s3, s4, s5⟩ := hSw; go_simp; try with_reducible rfl⟩
    try simp only [Act.put, List.setIfInBounds_toArray, List.set_cons_zero, List.set_cons_succ]
    refine wpAnyH_take (i := 13) (oi := ?oi13x22) (v := ?v13x22) ?hi13x22 (by kernel_rfl) (by kernel_rfl) (by kernel_rfl) ?hq13x22 ?hy13x22 hHeld ?rest13x22
    case hi13x22 => ((try simp only [List.getElem?_toArray, List.getElem?_cons_succ, List.getElem?_cons_zero]); (try rfl))
    case hq13x22 => exact fun _ _ _ h => h
    case hy13x22 => exact Or.inl ⟨by rfl, by intro w hSw; clear hSw; go_simp; try with_reducible rfl⟩
    try simp only [Act.put, List.setIfInBounds_toArray, List.set_cons_zero, List.set_cons_succ]
    refine wpAnyH_take (i := 14) (oi := ?oi14x23) (v := ?v14x23) ?hi14x23 (by kernel_rfl) (by kernel_rfl) (by kernel_rfl) ?hq14x23 ?hy14x23 hHeld ?rest14x23
    case hi14x23 => ((try simp only [List.getElem?_toArray, List.getElem?_cons_succ, List.getElem?_cons_zero]); (try rfl))
    case hq14x23 => exact fun _ _ _ h => h
    case hy14x23 => exact Or.inl ⟨by rfl, by intro w hSw; obtain ⟨s0, s1, s2, s3, s4, s5⟩ := hSw; go_simp; try with_reducible rfl⟩
    try simp only [Act.put, List.setIfInBounds_toArray, List.set_cons_zero, List.set_cons_succ]
    refine wpAnyH_take (i := 15) (oi := ?oi15x24) (v := ?v15x24) ?hi15x24 (by kernel_rfl) (by kernel_rfl) (by kernel_rfl) ?hq15x24 ?hy15x24 hHeld ?rest15x24
    case hi15x24 => ((try simp only [List.getElem?_toArray, List.getElem?_cons_succ, List.getElem?_cons_zero]); (try rfl))
    case hq15x24 => exact fun _ _ _ h => h
    case hy15x24 => exact Or.inl ⟨by rfl, by intro w hSw; clear hSw; go_simp; (try rw [DT.out]); try with_reducible rfl⟩
    try simp only [Act.put, List.setIfInBounds_toArray, List.set_cons_zero, List.set_cons_succ]
    refine wpAnyH_ready (rs := [4]) (by kernel_rfl) (by simp) ?_
    refine AllReadyH.cons rfl (fun K' hK => ?_) AllReadyH.nil
    clear hHeld
    go_simp
    refine (DF.out _).mono ?_
    rintro e w' ⟨rfl, rfl⟩
    refine hK.out _ _ (KS _ _ FN.out) (fun hHeld => ?_)
    clear hK
    try simp only [Act.put, List.setIfInBounds_toArray, List.set_cons_zero, List.set_cons_succ]
    refine wpAnyH_take (i := 10) (oi := ?oi10x25) (v := ?v10x25) ?hi10x25 (by kernel_rfl) (by kernel_rfl) (by kernel_rfl) ?hq10x25 ?hy10x25 hHeld ?rest10x25
    case hi10x25 => ((try simp only [List.getElem?_toArray, List.getElem?_cons_succ, List.getElem?_cons_zero]); (try rfl))
    case hq10x25 => exact fun _ _ _ h => h
    case hy10x25 => exact Or.inl ⟨by rfl, by intro w hSw; clear hSw; go_simp; try with_reducible rfl⟩
    try simp only [Act.put, List.setIfInBounds_toArray, List.set_cons_zero, List.set_cons_succ]
    refine wpAnyH_ready (rs := [16]) (by kernel_rfl) (by simp) ?_
    refine AllReadyH.cons rfl (fun K' hK => ?_) AllReadyH.nil
    have cr0 := FN.out.cell 2 0 rfl rfl
    have fr0 := FN.out.fz 2 0 rfl rfl
    have cr1 := FN.out.cell 2 1 rfl rfl
    have fr1 := FN.out.fz 2 1 rfl rfl
    clear hHeld
    go_simp
    clear cr0 cr1 fr0 fr1
    have FT := Lib.hid (FN.out.put 2 rfl [.int .i64 (dX a b), .int .i64 (dY a b)] rfl)
    refine hK.out _ _ (KS _ _ FT.out) (fun hHeld => ?_)
    clear hK
    try simp only [Act.put, List.setIfInBounds_toArray, List.set_cons_zero, List.set_cons_succ]
    refine wpAnyH_take (i := 17) (oi := ?oi17x26) (v := ?v17x26) ?hi17x26 (by kernel_rfl) (by kernel_rfl) (by kernel_rfl) ?hq17x26 ?hy17x26 hHeld ?rest17x26
    case hi17x26 => ((try simp only [List.getElem?_toArray, List.getElem?_cons_succ, List.getElem?_cons_zero]); (try rfl))
    case hq17x26 => exact fun _ _ _ h => h
    case hy17x26 => exact Or.inl ⟨by rfl, by intro w hSw; clear hSw; go_simp; try with_reducible rfl⟩
    try simp only [Act.put, List.setIfInBounds_toArray, List.set_cons_zero, List.set_cons_succ]
    refine wpAnyH_done (by kernel_rfl) ?_ _
    clear hHeld
    have G := Lib.hid (FT.out.get 2 rfl)
    have Z := Lib.hid FT.out.below
    clear KS FN FT DF DY DT dy dt
    go_wp2_with fail
    exact bodyPost_ret (ret_cell_tmp Tryz.results34 _ _ (w.heap.size + 1) [.int .i64 (dX a b), .int .i64 (dY a b)] _ rfl G.out Tryz.underlying73 rfl info2i) rfl ⟨rfl, Z.out⟩
  ·
    clear hHeld
    go_simp
    have FN := Lib.hid (FQ.out.alloc (obsC zeroO) 44)
    refine hK.out _ _ (KS _ FN.out.tail) (fun hHeld => ?_)
    clear hK
    try simp only [Act.put, List.setIfInBounds_toArray, List.set_cons_zero, List.set_cons_succ]
    refine wpAnyH_ready (rs := [10]) (by kernel_rfl) (by simp) ?_
    refine AllReadyH.cons rfl (fun K' hK => ?_) AllReadyH.nil
    clear hHeld
    go_simp
    have FN := Lib.hid (FN.out.alloc (obsC zeroO) 44)
    refine hK.out _ _ (KS _ FN.out.tail.tail) (fun hHeld => ?_)
    clear hK
    try simp only [Act.put, List.setIfInBounds_toArray, List.set_cons_zero, List.set_cons_succ]
    refine wpAnyH_ready (rs := [12]) (by kernel_rfl) (by simp) ?_
    refine AllReadyH.cons rfl (fun K' hK => ?_) AllReadyH.nil
    clear hHeld FN
    go_simp
    have FN := Lib.hid ((FQ.out.alloc (obsC zeroO) 44).alloc (obsC a) 44)
    refine hK.out _ _ (KS _ FN.out.tail.tail) (fun hHeld => ?_)
    clear hK
    try simp only [Act.put, List.setIfInBounds_toArray, List.set_cons_zero, List.set_cons_succ]
    refine wpAnyH_ready (rs := [13]) (by kernel_rfl) (by simp) ?_
    refine AllReadyH.cons rfl (fun K' hK => ?_) AllReadyH.nil
    clear hHeld FN
    go_simp
    have FN := Lib.hid ((FQ.out.alloc (obsC b) 44).alloc (obsC a) 44)
    refine hK.out _ _ (KS _ FN.out.tail.tail) (fun hHeld => ?_)
    clear hK
    try simp only [Act.put, List.setIfInBounds_toArray, List.set_cons_zero, List.set_cons_succ]
    have FN := FN.out
    simp only [World.size_alloc] at FN
    have FN : Hid (Fr w [((wd.heap.size + 1), obsC a), (wd.heap.size, obsC b), (w.heap.size + 1, [.int .i64 0, .int .i64 0]), (w.heap.size, ntC (some ⟨B, off, none⟩) n c u)] _) := Lib.hid FN
    generalize (wd.alloc (.cells (obsC b).toArray 44)).alloc (.cells (obsC a).toArray 44) = wc at *
    refine wpAnyH_done (by kernel_rfl) ?_ _
    clear hHeld
    clear KS FQ RA RB i0 i1 j0 j1
    go_wp2_with fail
    have KS := fun w' rs (h : Fr w [((wd.heap.size + 1), obsC a), (wd.heap.size, obsC b), (w.heap.size + 1, rs), (w.heap.size, ntC (some ⟨B, off, none⟩) n c u)] w') => (show w'.cell? ⟨wd.heap.size, 2, none⟩ = some (.int .i64 b.t) ∧ w'.cell? ⟨wd.heap.size, 3, none⟩ = some (.int .i64 b.ra) ∧ w'.cell? ⟨wd.heap.size, 4, none⟩ = some (.int .i64 b.dec) ∧ w'.cell? ⟨(wd.heap.size + 1), 2, none⟩ = some (.int .i64 a.t) ∧ w'.cell? ⟨(wd.heap.size + 1), 3, none⟩ = some (.int .i64 a.ra) ∧ w'.cell? ⟨(wd.heap.size + 1), 4, none⟩ = some (.int .i64 a.dec) from ⟨h.cell 1 2 rfl rfl, h.cell 1 3 rfl rfl, h.cell 1 4 rfl rfl, h.cell 0 2 rfl rfl, h.cell 0 3 rfl rfl, h.cell 0 4 rfl rfl⟩)
    refine wp_region_held_drew (S := fun w' => w'.cell? ⟨wd.heap.size, 2, none⟩ = some (.int .i64 b.t) ∧ w'.cell? ⟨wd.heap.size, 3, none⟩ = some (.int .i64 b.ra) ∧ w'.cell? ⟨wd.heap.size, 4, none⟩ = some (.int .i64 b.dec) ∧ w'.cell? ⟨(wd.heap.size + 1), 2, none⟩ = some (.int .i64 a.t) ∧ w'.cell? ⟨(wd.heap.size + 1), 3, none⟩ = some (.int .i64 a.ra) ∧ w'.cell? ⟨(wd.heap.size + 1), 4, none⟩ = some (.int .i64 a.dec)) (by kernel_rfl) (KS _ _ FN.out.drew) (fun hHeld => ?_)
    have FN := Lib.hid FN.out.drew
    generalize wc.drew = we at *
    have dy := DY.out
    have dt := DT.out
    refine wpAnyH_take (i := 0) (oi := ?oi0x27) (v := ?v0x27) ?hi0x27 (by kernel_rfl) (by kernel_rfl) (by kernel_rfl) ?hq0x27 ?hy0x27 hHeld ?rest0x27
    case hi0x27 => ((try simp only [List.getElem?_toArray, List.getElem?_cons_succ, List.getElem?_cons_zero]); (try rfl))
    case hq0x27 => exact fun _ _ _ h => h
    case hy0x27 => exact Or.inl ⟨by rfl, by intro w hSw; clear hSw; go_simp; try with_reducible rfl⟩
    try simp only [Act.put, List.setIfInBounds_toArray, List.set_cons_zero, List.set_cons_succ]
    refine wpAnyH_take (i := 1) (oi := ?oi1x28) (v := ?v1x28) ?hi1x28 (by kernel_rfl) (by kernel_rfl) (by kernel_rfl) ?hq1x28 ?hy1x28 hHeld ?rest1x28
    case hi1x28 => ((try simp only [List.getElem?_toArray, List.getElem?_cons_succ, List.getElem?_cons_zero]); (try rfl))
    case hq1x28 => exact fun _ _ _ h => h
    case hy1x28 => exact Or.inl ⟨by rfl, by intro w hSw; obtain ⟨s0, s1, s2, s3, s4, s5⟩ := hSw; go_simp; try with_reducible rfl⟩
    try simp only [Act.put, List.setIfInBounds_toArray, List.set_cons_zero, List.set_cons_succ]
    refine wpAnyH_take (i := 2) (oi := ?oi2x29) (v := ?v2x29) ?hi2x29 (by kernel_rfl) (by kernel_rfl) (by kernel_rfl) ?hq2x29 ?hy2x29 hHeld ?rest2x29
    case hi2x29 => ((try simp only [List.getElem?_toArray, List.getElem?_cons_succ, List.getElem?_cons_zero]); (try rfl))
    case hq2x29 => exact fun _ _ _ h => h
    case hy2x29 => exact Or.inl ⟨by rfl, by intro w hSw; clear hSw; go_simp; try with_reducible rfl⟩
    try simp only [Act.put, List.setIfInBounds_toArray, List.set_cons_zero, List.set_cons_succ]
    refine wpAnyH_take (i := 3) (oi := ?oi3x30) (v := ?v3x30) ?hi3x30 (by kernel_rfl) (by kernel_rfl) (by kernel_rfl) ?hq3x30 ?hy3x30 hHeld ?rest3x30
    case hi3x30 => ((try simp only [List.getElem?_toArray, List.getElem?_cons_succ, List.getElem?_cons_zero]); (try rfl))
    case hq3x30 => exact fun _ _ _ h => h
    case hy3x30 => exact Or.inl ⟨by rfl, by intro w hSw; obtain ⟨s0, s1, s2, s3, s4, s5⟩ := hSw; go_simp; try with_reducible rfl⟩
    try simp only [Act.put, List.setIfInBounds_toArray, List.set_cons_zero, List.set_cons_succ]
    refine wpAnyH_take (i := 5) (oi := ?oi5x31) (v := ?v5x31) ?hi5x31 (by kernel_rfl) (by kernel_rfl) (by kernel_rfl) ?hq5x31 ?hy5x31 hHeld ?rest5x31
    case hi5x31 => ((try simp only [List.getElem?_toArray, List.getElem?_cons_succ, List.getElem?_cons_zero]); (try rfl))
    case hq5x31 => exact fun _ _ _ h => h
    case hy5x31 => exact Or.inl ⟨by rfl, by intro w hSw; clear hSw; go_simp; try with_reducible rfl⟩
    try simp only [Act.put, List.setIfInBounds_toArray, List.set_cons_zero, List.set_cons_succ]
    refine wpAnyH_take (i := 6) (oi := ?oi6x32) (v := ?v6x32) ?hi6x32 (by kernel_rfl) (by kernel_rfl) (by kernel_rfl) ?hq6x32 ?hy6x32 hHeld ?rest6x32
    case hi6x32 => ((try simp only [List.getElem?_toArray, List.getElem?_cons_succ, List.getElem?_cons_zero]); (try rfl))
    case hq6x32 => exact fun _ _ _ h => h
    case hy6x32 => exact Or.inl ⟨by rfl, by intro w hSw; obtain ⟨s0, s1, s2, s3, s4, s5⟩ := hSw; go_simp; try with_reducible rfl⟩
    try simp only [Act.put, List.setIfInBounds_toArray, List.set_cons_zero, List.set_cons_succ]
    refine wpAnyH_take (i := 7) (oi := ?oi7x33) (v := ?v7x33) ?hi7x33 (by kernel_rfl) (by kernel_rfl) (by kernel_rfl) ?hq7x33 ?hy7x33 hHeld ?rest7x33
    case hi7x33 => ((try simp only [List.getElem?_toArray, List.getElem?_cons_succ, List.getElem?_cons_zero]); (try rfl))
    case hq7x33 => exact fun _ _ _ h => h
    case hy7x33 => exact Or.inl ⟨by rfl, by intro w hSw; clear hSw; go_simp; try with_reducible rfl⟩
    try simp only [Act.put, List.setIfInBounds_toArray, List.set_cons_zero, List.set_cons_succ]
    refine wpAnyH_take (i := 8) (oi := ?oi8x34) (v := ?v8x34) ?hi8x34 (by kernel_rfl) (by kernel_rfl) (by kernel_rfl) ?hq8x34 ?hy8x34 hHeld ?rest8x34
    case hi8x34 => ((try simp only [List.getElem?_toArray, List.getElem?_cons_succ, List.getElem?_cons_zero]); (try rfl))
    case hq8x34 => exact fun _ _ _ h => h
    case hy8x34 => exact Or.inl ⟨by rfl, by intro w hSw; obtain ⟨s0, s1, s2, s3, s4, s5⟩ := hSw; go_simp; try with_reducible rfl⟩
    try simp only [Act.put, List.setIfInBounds_toArray, List.set_cons_zero, List.set_cons_succ]
    refine wpAnyH_take (i := 9) (oi := ?oi9x35) (v := ?v9x35) ?hi9x35 (by kernel_rfl) (by kernel_rfl) (by kernel_rfl) ?hq9x35 ?hy9x35 hHeld ?rest9x35
    case hi9x35 => ((try simp only [List.getElem?_toArray, List.getElem?_cons_succ, List.getElem?_cons_zero]); (try rfl))
    case hq9x35 => exact fun _ _ _ h => h
    case hy9x35 => exact Or.inl ⟨by rfl, by intro w hSw; clear hSw; go_simp; (try rw [DY.out]); try with_reducible rfl⟩
    try simp only [Act.put, List.setIfInBounds_toArray, List.set_cons_zero, List.set_cons_succ]
    refine wpAnyH_take (i := 11) (oi := ?oi11x36) (v := ?v11x36) ?hi11x36 (by kernel_rfl) (by kernel_rfl) (by kernel_rfl) ?hq11x36 ?hy11x36 hHeld ?rest11x36
    case hi11x36 => ((try simp only [List.getElem?_toArray, List.getElem?_cons_succ, List.getElem?_cons_zero]); (try rfl))
    case hq11x36 => exact fun _ _ _ h => h
    case hy11x36 => exact Or.inl ⟨by rfl, by intro w hSw; clear hSw; go_simp; try with_reducible rfl⟩
    try simp only [Act.put, List.setIfInBounds_toArray, List.set_cons_zero, List.set_cons_succ]
    refine wpAnyH_take (i := 12) (oi := ?oi12x37) (v := ?v12x37) ?hi12x37 (by kernel_rfl) (by kernel_rfl) (by kernel_rfl) ?hq12x37 ?hy12x37 hHeld ?rest12x37
    case hi12x37 => ((try simp only [List.getElem?_toArray, List.getElem?_cons_succ, List.getElem?_cons_zero]); (try rfl))
    case hq12x37 => exact fun _ _ _ h => h
    case hy12x37 => exact Or.inl ⟨by rfl, by intro w hSw; obtain ⟨s0, s1, s2, s3, s4, s5⟩ := hSw; go_simp; try with_reducible rfl⟩
    try simp only [Act.put, List.setIfInBounds_toArray, List.set_cons_zero, List.set_cons_succ]
    refine wpAnyH_take (i := 13) (oi := ?oi13x38) (v := ?v13x38) ?hi13x38 (by kernel_rfl) (by kernel_rfl) (by kernel_rfl) ?hq13x38 ?hy13x38 hHeld ?rest13x38
    case hi13x38 => ((try simp only [List.getElem?_toArray, List.getElem?_cons_succ, List.getElem?_cons_zero]); (try rfl))
    case hq13x38 => exact fun _ _ _ h => h
    case hy13x38 => exact Or.inl ⟨by rfl, by intro w hSw; clear hSw; go_simp; try with_reducible rfl⟩
    try simp only [Act.put, List.setIfInBounds_toArray, List.set_cons_zero, List.set_cons_succ]
    refine wpAnyH_take (i := 14) (oi := ?oi14x39) (v := ?v14x39) ?hi14x39 (by kernel_rfl) (by kernel_rfl) (by kernel_rfl) ?hq14x39 ?hy14x39 hHeld ?rest14x39
    case hi14x39 => ((try simp only [List.getElem?_toArray, List.getElem?_cons_succ, List.getElem?_cons_zero]); (try rfl))
    case hq14x39 => exact fun _ _ _ h => h
    case hy14x39 => exact Or.inl ⟨by rfl, by intro w hSw; obtain ⟨s0, s1, s2, s3, s4, s5⟩ := hSw; go_simp; try with_reducible rfl⟩
    try simp only [Act.put, List.setIfInBounds_toArray, List.set_cons_zero, List.set_cons_succ]
    refine wpAnyH_take (i := 15) (oi := ?oi15x40) (v := ?v15x40) ?hi15x40 (by kernel_rfl) (by kernel_rfl) (by kernel_rfl) ?hq15x40 ?hy15x40 hHeld ?rest15x40
    case hi15x40 => ((try simp only [List.getElem?_toArray, List.getElem?_cons_succ, List.getElem?_cons_zero]); (try rfl))
    case hq15x40 => exact fun _ _ _ h => h
    case hy15x40 => exact Or.inl ⟨by rfl, by intro w hSw; clear hSw; go_simp; (try rw [DT.out]); try with_reducible rfl⟩
    try simp only [Act.put, List.setIfInBounds_toArray, List.set_cons_zero, List.set_cons_succ]
    refine wpAnyH_ready (rs := [4]) (by kernel_rfl) (by simp) ?_
    refine AllReadyH.cons rfl (fun K' hK => ?_) AllReadyH.nil
    clear hHeld
    go_simp
    refine (DF.out _).mono ?_
    rintro e w' ⟨rfl, rfl⟩
    refine hK.out _ _ (KS _ _ FN.out) (fun hHeld => ?_)
    clear hK
    try simp only [Act.put, List.setIfInBounds_toArray, List.set_cons_zero, List.set_cons_succ]
    refine wpAnyH_take (i := 10) (oi := ?oi10x41) (v := ?v10x41) ?hi10x41 (by kernel_rfl) (by kernel_rfl) (by kernel_rfl) ?hq10x41 ?hy10x41 hHeld ?rest10x41
    case hi10x41 => ((try simp only [List.getElem?_toArray, List.getElem?_cons_succ, List.getElem?_cons_zero]); (try rfl))
    case hq10x41 => exact fun _ _ _ h => h
    case hy10x41 => exact Or.inl ⟨by rfl, by intro w hSw; clear hSw; go_simp; try with_reducible rfl⟩
    try simp only [Act.put, List.setIfInBounds_toArray, List.set_cons_zero, List.set_cons_succ]
    refine wpAnyH_ready (rs := [16]) (by kernel_rfl) (by simp) ?_
    refine AllReadyH.cons rfl (fun K' hK => ?_) AllReadyH.nil
    have cr0 := FN.out.cell 2 0 rfl rfl
    have fr0 := FN.out.fz 2 0 rfl rfl
    have cr1 := FN.out.cell 2 1 rfl rfl
    have fr1 := FN.out.fz 2 1 rfl rfl
    clear hHeld
    go_simp
    clear cr0 cr1 fr0 fr1
    have FT := Lib.hid (FN.out.put 2 rfl [.int .i64 (dX a b), .int .i64 (dY a b)] rfl)
    refine hK.out _ _ (KS _ _ FT.out) (fun hHeld => ?_)
    clear hK
    try simp only [Act.put, List.setIfInBounds_toArray, List.set_cons_zero, List.set_cons_succ]
    refine wpAnyH_take (i := 17) (oi := ?oi17x42) (v := ?v17x42) ?hi17x42 (by kernel_rfl) (by kernel_rfl) (by kernel_rfl) ?hq17x42 ?hy17x42 hHeld ?rest17x42
    case hi17x42 => ((try simp only [List.getElem?_toArray, List.getElem?_cons_succ, List.getElem?_cons_zero]); (try rfl))
    case hq17x42 => exact fun _ _ _ h => h
    case hy17x42 => exact Or.inl ⟨by rfl, by intro w hSw; clear hSw; go_simp; try with_reducible rfl⟩
    try simp only [Act.put, List.setIfInBounds_toArray, List.set_cons_zero, List.set_cons_succ]
    refine wpAnyH_done (by kernel_rfl) ?_ _
    clear hHeld
    have G := Lib.hid (FT.out.get 2 rfl)
    have Z := Lib.hid FT.out.below
    clear KS FN FT DF DY DT dy dt
    go_wp2_with fail
    exact bodyPost_ret (ret_cell_tmp Tryz.results34 _ _ (w.heap.size + 1) [.int .i64 (dX a b), .int .i64 (dY a b)] _ rfl G.out Tryz.underlying73 rfl info2i) rfl ⟨rfl, Z.out⟩
end Tw
end Go.Proofs.YtjgcbeihgeaimaaGreatDoor
/-
  The night: allowed.
-/
namespace Go.Proofs.YtjgcbeihgeaimaaGreatDoor
namespace Tw
open Go.RowKit Lw Tk _root_.Go.Proofs.YtjgcbeihgeaimaaGreatDoor.Op Ow

/-- What a night's walks want of a pair. -/
structure PairAt (w : World) (B off n i j : Nat) (a b : Ob) : Prop where
  hi : i < n
  hj : j < n
  lt : B < w.heap.size
  ra : w.rangeAt B (off + i * 8) (obsC a)
  rb : w.rangeAt B (off + j * 8) (obsC b)
  ok : okO a
  kb : okO b
theorem PairAt.below {w w' : World} {B off n i j : Nat} {a b : Ob} (h : PairAt w B off n i j a b) (hb : Below w.heap.size w w') : PairAt w' B off n i j a b :=
  ⟨h.hi, h.hj, Nat.lt_of_lt_of_le h.lt hb.size, rangeAt_below h.ra hb h.lt, rangeAt_below h.rb hb h.lt, h.ok, h.kb⟩
theorem PairAt.dif {w : World} {B off n i j : Nat} {a b : Ob} (h : PairAt w B off n i j a b) : Dif a b := dif_of h.ok h.kb
theorem PairAt.siteA {w : World} {B off n i j : Nat} {a b : Ob} (h : PairAt w B off n i j a b) : w.cell? ⟨B, off + i * 8 + 1, none⟩ = some (.string a.site) := h.ra 1 _ rfl
theorem PairAt.siteB {w : World} {B off n i j : Nat} {a b : Ob} (h : PairAt w B off n i j a b) : w.cell? ⟨B, off + j * 8 + 1, none⟩ = some (.string b.site) := h.rb 1 _ rfl
theorem PairAt.timeA {w : World} {B off n i j : Nat} {a b : Ob} (h : PairAt w B off n i j a b) : w.cell? ⟨B, off + i * 8 + 2, none⟩ = some (.int .i64 a.t) := h.ra 2 _ rfl
theorem PairAt.timeB {w : World} {B off n i j : Nat} {a b : Ob} (h : PairAt w B off n i j a b) : w.cell? ⟨B, off + j * 8 + 2, none⟩ = some (.int .i64 b.t) := h.rb 2 _ rfl
theorem away_any (n c i j B off : Nat) (u : Rl) (a b : Ob) (w : World) (h : PairAt w B off n i j a b) :
    Calls Tryz.prog 34 #[ntV (some ⟨B, off, none⟩) n c u, .int .i64 i, .int .i64 j] w fun e w' => e = .returned (.tuple #[.agg #[.int .i64 (dX a b), .int .i64 (dY a b)], .int .i64 (dT a b)]) ∧ Below w.heap.size w w' := by
  obtain ⟨-, -, -, -, a0, a1, -⟩ := h.ok
  obtain ⟨-, -, -, -, b0, b1, -⟩ := h.kb
  exact away_core n c i j B off u a b w h.hi h.hj h.lt h.ra h.rb h.dif (by omega) (by omega) (by omega) (by omega)
theorem site_eq {s t : ByteArray} (h : s = t) : (s.toList == t.toList) = true := by rw [h]; exact beq_self_eq_true _
theorem site_ne {s t : ByteArray} (h : ¬ s = t) : (s.toList == t.toList) = false := beq_eq_false_iff_ne.2 (fun e => h (by
  rw [ByteArray.toList_eq, ByteArray.toList_eq] at e
  cases s with | mk x => cases t with | mk y => cases x; cases y; simp_all))
set_option maxRecDepth 100000 in
set_option maxHeartbeats 8000000 in
theorem allowed_any (n c i j B off : Nat) (u : Rl) (a b : Ob) (w : World) (h : PairAt w B off n i j a b) (hu : okR u) :
    Calls Tryz.prog 31 #[ntV (some ⟨B, off, none⟩) n c u, .int .i64 i, .int .i64 j] w fun e w' => e = .returned (.bool (decide (alw u a b))) ∧ Below w.heap.size w w' := by
  have AW := Lib.hid (fun w' (hb : Below w.heap.size w w') => away_any n c i j B off u a b w' (h.below hb))
  have SA := Lib.hid (fun w' (hb : Below w.heap.size w w') => (h.below hb).siteA)
  have SB := Lib.hid (fun w' (hb : Below w.heap.size w w') => (h.below hb).siteB)
  have hd := h.dif
  have PL := Lib.hid (fun w' => product_any u.speed (dT a b) w' (by obtain ⟨-, ⟨h1, h2⟩, -⟩ := hu; omega) (by have := hd.t0; have := hd.t1; omega))
  have PX := Lib.hid (fun w' => product_any (dX a b) 86400000000 w' (by have := hd.x0; have := hd.x1; omega) (by decide))
  have PY := Lib.hid (fun w' => product_any (dY a b) 86400000000 w' (by have := hd.y0; have := hd.y1; omega) (by decide))
  have F0 := Lib.hid ((Fr.start w).alloc (ntC (some ⟨B, off, none⟩) n c u) 49)
  have i0 : (0 : Int) ≤ (i : Int) := by omega
  have i1 : (i : Int) < (n : Int) := by have := h.hi; omega
  have j0 : (0 : Int) ≤ (j : Int) := by omega
  have j1 : (j : Int) < (n : Int) := by have := h.hj; omega
  have YES : Hid (a.site = b.site → u.least ≤ dT a b → dT a b ≤ u.most → mag (dX a b) 86400000000 ≤ mag u.speed (dT a b) → decide (alw u a b) = decide (mag (dY a b) 86400000000 ≤ mag u.speed (dT a b))) := Lib.hid (fun h1 h2 h3 h4 => decide_eq_decide.2 ⟨fun h => h.2.2.2.2, fun h => ⟨h1, h2, h3, h4, h⟩⟩)
  have NOX : Hid (¬ mag (dX a b) 86400000000 ≤ mag u.speed (dT a b) → decide (alw u a b) = false) := Lib.hid (fun h1 => decide_eq_false (fun h => h1 h.2.2.2.1))
  have NOS : Hid (¬ (a.site = b.site ∧ u.least ≤ dT a b ∧ dT a b ≤ u.most) → decide (alw u a b) = false) := Lib.hid (fun h1 => decide_eq_false (fun h => h1 ⟨h.1, h.2.1, h.2.2.1⟩))
  generalize decide (alw u a b) = R at *
  clear h hu hd
  go_enter Tryz.func31, Tryz.ntmps31
  go_wp2_with fail
  refine (AW.out _ F0.out.below).mono ?_
  rintro e w1 ⟨rfl, hb⟩
  generalize dX a b = dx at *
  generalize dY a b = dy at *
  generalize dT a b = dt at *
  have F1 := (F0.out.call hb).alloc [.int .i64 dx, .int .i64 dy] 73
  have cn0 := F1.cell 1 0 rfl rfl
  have cn1 := F1.cell 1 1 rfl rfl
  have cn2 := F1.cell 1 2 rfl rfl
  have cn3 := F1.cell 1 3 rfl rfl
  have cn4 := F1.cell 1 4 rfl rfl
  have cn5 := F1.cell 1 5 rfl rfl
  have cx0 := F1.cell 0 0 rfl rfl
  have cx1 := F1.cell 0 1 rfl rfl
  have sa := SA.out _ F1.below
  have sb := SB.out _ F1.below
  have F1 := Lib.hid F1
  clear hb AW F0
  go_wp2_with fail
  by_cases hs : a.site = b.site
  rotate_left
  · have es := site_ne hs
    obtain rfl := NOS.out (fun h => hs h.1)
    clear YES NOX NOS PL PX PY SA SB
    go_quiet (fail)
    go_wp2_with fail
    exact bodyPost_ret (results_tmp rfl _ _ _) rfl ⟨rfl, drewN_below2 F1.out.below _⟩
  have es := site_eq hs
  by_cases h1 : dt < u.least
  · obtain rfl := NOS.out (fun h => by omega)
    clear YES NOX NOS PL PX PY SA SB
    go_quiet (fail)
    go_wp2_with fail
    exact bodyPost_ret (results_tmp rfl _ _ _) rfl ⟨rfl, drewN_below2 F1.out.below _⟩
  by_cases h2 : u.most < dt
  · obtain rfl := NOS.out (fun h => by omega)
    clear YES NOX NOS PL PX PY SA SB
    go_quiet (fail)
    go_wp2_with fail
    exact bodyPost_ret (results_tmp rfl _ _ _) rfl ⟨rfl, drewN_below2 F1.out.below _⟩
  have YES2 := Lib.hid (YES.out hs (by omega) (by omega))
  clear NOS SA SB YES
  go_quiet (fail)
  have F2 := Lib.hid (F1.out.drewN nq)
  clear F1 sa sb es cn0 cn1 cn2 cn3 cn4 cn5 cx0 cx1
  have cn0 := F2.out.cell 1 0 rfl rfl
  have cn1 := F2.out.cell 1 1 rfl rfl
  have cn2 := F2.out.cell 1 2 rfl rfl
  have cn3 := F2.out.cell 1 3 rfl rfl
  have cn4 := F2.out.cell 1 4 rfl rfl
  have cn5 := F2.out.cell 1 5 rfl rfl
  go_wp2_with fail
  refine (PL.out _).mono ?_
  rintro e w3 ⟨rfl, hb⟩
  generalize sgn u.speed dt = sl at *
  generalize mag u.speed dt = ml at *
  have F3 := (F2.out.call hb).alloc (sgC sl ml) 77
  have F3 := Lib.hid F3
  clear hb PL F2 cn0 cn1 cn2 cn3 cn4 cn5
  go_wp2_with fail
  generalize w3.alloc (.cells (sgC sl ml).toArray 77) = wa at *
  have KS := fun w' (h : Fr w [(w3.heap.size, sgC sl ml), (w1.heap.size, [.int .i64 dx, .int .i64 dy]), (w.heap.size, ntC (some ⟨B, off, none⟩) n c u)] w') => (show w'.cell? ⟨w1.heap.size, 0, none⟩ = some (.int .i64 dx) ∧ w'.cell? ⟨w1.heap.size, 1, none⟩ = some (.int .i64 dy) ∧ w'.cell? ⟨w3.heap.size, 0, none⟩ = some (.bool sl) ∧ w'.cell? ⟨w3.heap.size, 1, none⟩ = some (.int .u64 ((ml : Int) / 18446744073709551616)) ∧ w'.cell? ⟨w3.heap.size, 2, none⟩ = some (.int .u64 ((ml : Int) % 18446744073709551616)) from ⟨h.cell 1 0 rfl rfl, h.cell 1 1 rfl rfl, h.cell 0 0 rfl rfl, h.cell 0 1 rfl rfl, h.cell 0 2 rfl rfl⟩)
  refine wp_region_held_drew (S := fun w' => w'.cell? ⟨w1.heap.size, 0, none⟩ = some (.int .i64 dx) ∧ w'.cell? ⟨w1.heap.size, 1, none⟩ = some (.int .i64 dy) ∧ w'.cell? ⟨w3.heap.size, 0, none⟩ = some (.bool sl) ∧ w'.cell? ⟨w3.heap.size, 1, none⟩ = some (.int .u64 ((ml : Int) / 18446744073709551616)) ∧ w'.cell? ⟨w3.heap.size, 2, none⟩ = some (.int .u64 ((ml : Int) % 18446744073709551616))) (by kernel_rfl) (KS _ F3.out.drew) (fun hHeld => ?_)
  have FQ := Lib.hid F3.out.drew
  clear F3
  refine wpAnyH_take (i := 0) (oi := ?oi0x1) (v := ?v0x1) ?hi0x1 (by kernel_rfl) (by kernel_rfl) (by kernel_rfl) ?hq0x1 ?hy0x1 hHeld ?rest0x1
  case hi0x1 => ((try simp only [List.getElem?_toArray, List.getElem?_cons_succ, List.getElem?_cons_zero]); (try rfl))
  case hq0x1 => exact fun _ _ _ h => h
  case hy0x1 => exact Or.inl ⟨by rfl, by intro w hSw; clear hSw; go_simp; try with_reducible rfl⟩
  try simp only [Act.put, List.setIfInBounds_toArray, List.set_cons_zero, List.set_cons_succ]
  refine wpAnyH_take (i := 1) (oi := ?oi1x2) (v := ?v1x2) ?hi1x2 (by kernel_rfl) (by kernel_rfl) (by kernel_rfl) ?hq1x2 ?hy1x2 hHeld ?rest1x2
  case hi1x2 => ((try simp only [List.getElem?_toArray, List.getElem?_cons_succ, List.getElem?_cons_zero]); (try rfl))
  case hq1x2 => exact fun _ _ _ h => h
  case hy1x2 => exact Or.inl ⟨by rfl, by intro w hSw; obtain ⟨s0, s1, s2, s3, s4⟩ := hSw; go_simp; try with_reducible rfl⟩
  try simp only [Act.put, List.setIfInBounds_toArray, List.set_cons_zero, List.set_cons_succ]
  refine wpAnyH_take (i := 3) (oi := ?oi3x3) (v := ?v3x3) ?hi3x3 (by kernel_rfl) (by kernel_rfl) (by kernel_rfl) ?hq3x3 ?hy3x3 hHeld ?rest3x3
  case hi3x3 => ((try simp only [List.getElem?_toArray, List.getElem?_cons_succ, List.getElem?_cons_zero]); (try rfl))
  case hq3x3 => exact fun _ _ _ h => h
  case hy3x3 => exact Or.inl ⟨by rfl, by intro w hSw; obtain ⟨s0, s1, s2, s3, s4⟩ := hSw; go_simp; try with_reducible rfl⟩
  try simp only [Act.put, List.setIfInBounds_toArray, List.set_cons_zero, List.set_cons_succ]
  refine wpAnyH_ready (rs := [2]) (by kernel_rfl) (by simp) ?_
  refine AllReadyH.cons rfl (fun K' hK => ?_) AllReadyH.nil
  clear hHeld
  go_simp
  refine (PX.out _).mono ?_
  rintro e w4 ⟨rfl, hb⟩
  have FQ := Lib.hid (FQ.out.call hb)
  clear hb PX
  generalize sgn dx 86400000000 = sx at *
  generalize mag dx 86400000000 = mx at *
  refine hK.out _ _ (KS _ FQ.out) (fun hHeld => ?_)
  clear hK
  try simp only [Act.put, List.setIfInBounds_toArray, List.set_cons_zero, List.set_cons_succ]
  refine wpAnyH_ready (rs := [4]) (by kernel_rfl) (by simp) ?_
  refine AllReadyH.cons rfl (fun K' hK => ?_) AllReadyH.nil
  clear hHeld
  go_simp
  refine (atmost_any sx sl mx ml _).mono ?_
  rintro e w5 ⟨rfl, hb⟩
  have FQ := Lib.hid (FQ.out.call hb)
  clear hb
  refine hK.out _ _ (KS _ FQ.out) (fun hHeld => ?_)
  clear hK
  try simp only [Act.put, List.setIfInBounds_toArray, List.set_cons_zero, List.set_cons_succ]
  by_cases hx : mx ≤ ml
  ·
    obtain rfl := YES2.out hx
    rw [decide_eq_true hx]
    clear YES2 NOX
    refine wpAnyH_take (i := 5) (oi := ?oi5x4) (v := ?v5x4) ?hi5x4 (by kernel_rfl) (by kernel_rfl) (by kernel_rfl) ?hq5x4 ?hy5x4 hHeld ?rest5x4
    case hi5x4 => ((try simp only [List.getElem?_toArray, List.getElem?_cons_succ, List.getElem?_cons_zero]); (try rfl))
    case hq5x4 => exact fun _ _ _ h => h
    case hy5x4 => exact Or.inl ⟨by rfl, by intro w hSw; clear hSw; go_simp; try with_reducible rfl⟩
    try simp only [Act.put, List.setIfInBounds_toArray, List.set_cons_zero, List.set_cons_succ]
    refine wpAnyH_take (i := 6) (oi := ?oi6x5) (v := ?v6x5) ?hi6x5 (by kernel_rfl) (by kernel_rfl) (by kernel_rfl) ?hq6x5 ?hy6x5 hHeld ?rest6x5
    case hi6x5 => ((try simp only [List.getElem?_toArray, List.getElem?_cons_succ, List.getElem?_cons_zero]); (try rfl))
    case hq6x5 => exact fun _ _ _ h => h
    case hy6x5 => exact Or.inl ⟨by rfl, by intro w hSw; clear hSw; go_simp; try with_reducible rfl⟩
    try simp only [Act.put, List.setIfInBounds_toArray, List.set_cons_zero, List.set_cons_succ]
    refine wpAnyH_take (i := 7) (oi := ?oi7x6) (v := ?v7x6) ?hi7x6 (by kernel_rfl) (by kernel_rfl) (by kernel_rfl) ?hq7x6 ?hy7x6 hHeld ?rest7x6
    case hi7x6 => ((try simp only [List.getElem?_toArray, List.getElem?_cons_succ, List.getElem?_cons_zero]); (try rfl))
    case hq7x6 => exact fun _ _ _ h => h
    case hy7x6 => exact Or.inl ⟨by rfl, by intro w hSw; obtain ⟨s0, s1, s2, s3, s4⟩ := hSw; go_simp; try with_reducible rfl⟩
    try simp only [Act.put, List.setIfInBounds_toArray, List.set_cons_zero, List.set_cons_succ]
    refine wpAnyH_take (i := 9) (oi := ?oi9x7) (v := ?v9x7) ?hi9x7 (by kernel_rfl) (by kernel_rfl) (by kernel_rfl) ?hq9x7 ?hy9x7 hHeld ?rest9x7
    case hi9x7 => ((try simp only [List.getElem?_toArray, List.getElem?_cons_succ, List.getElem?_cons_zero]); (try rfl))
    case hq9x7 => exact fun _ _ _ h => h
    case hy9x7 => exact Or.inl ⟨by rfl, by intro w hSw; obtain ⟨s0, s1, s2, s3, s4⟩ := hSw; go_simp; try with_reducible rfl⟩
    try simp only [Act.put, List.setIfInBounds_toArray, List.set_cons_zero, List.set_cons_succ]
    refine wpAnyH_ready (rs := [8]) (by kernel_rfl) (by simp) ?_
    refine AllReadyH.cons rfl (fun K' hK => ?_) AllReadyH.nil
    clear hHeld
    go_simp
    refine (PY.out _).mono ?_
    rintro e w6 ⟨rfl, hb⟩
    have FQ := Lib.hid (FQ.out.call hb)
    clear hb PY
    refine hK.out _ _ (KS _ FQ.out) (fun hHeld => ?_)
    clear hK
    try simp only [Act.put, List.setIfInBounds_toArray, List.set_cons_zero, List.set_cons_succ]
    refine wpAnyH_ready (rs := [10]) (by kernel_rfl) (by simp) ?_
    refine AllReadyH.cons rfl (fun K' hK => ?_) AllReadyH.nil
    clear hHeld
    go_simp
    refine (atmost_any (sgn dy 86400000000) sl (mag dy 86400000000) ml _).mono ?_
    rintro e w7 ⟨rfl, hb⟩
    have FQ := Lib.hid (FQ.out.call hb)
    clear hb
    refine hK.out _ _ (KS _ FQ.out) (fun hHeld => ?_)
    clear hK
    try simp only [Act.put, List.setIfInBounds_toArray, List.set_cons_zero, List.set_cons_succ]
    refine wpAnyH_take (i := 11) (oi := ?oi11x8) (v := ?v11x8) ?hi11x8 (by kernel_rfl) (by kernel_rfl) (by kernel_rfl) ?hq11x8 ?hy11x8 hHeld ?rest11x8
    case hi11x8 => ((try simp only [List.getElem?_toArray, List.getElem?_cons_succ, List.getElem?_cons_zero]); (try rfl))
    case hq11x8 => exact fun _ _ _ h => h
    case hy11x8 => exact Or.inl ⟨by rfl, by intro w hSw; clear hSw; go_simp; try with_reducible rfl⟩
    try simp only [Act.put, List.setIfInBounds_toArray, List.set_cons_zero, List.set_cons_succ]
    refine wpAnyH_take (i := 12) (oi := ?oi12x9) (v := ?v12x9) ?hi12x9 (by kernel_rfl) (by kernel_rfl) (by kernel_rfl) ?hq12x9 ?hy12x9 hHeld ?rest12x9
    case hi12x9 => ((try simp only [List.getElem?_toArray, List.getElem?_cons_succ, List.getElem?_cons_zero]); (try rfl))
    case hq12x9 => exact fun _ _ _ h => h
    case hy12x9 => exact Or.inl ⟨by rfl, by intro w hSw; clear hSw; go_simp; try with_reducible rfl⟩
    try simp only [Act.put, List.setIfInBounds_toArray, List.set_cons_zero, List.set_cons_succ]
    refine wpAnyH_done (by kernel_rfl) ?_ _
    clear hHeld
    clear KS
    go_wp2_with fail
    exact bodyPost_ret (results_tmp rfl _ _ _) rfl ⟨rfl, FQ.out.below⟩
  ·
    obtain rfl := NOX.out hx
    rw [decide_eq_false hx]
    clear YES2 NOX PY
    refine wpAnyH_take (i := 5) (oi := ?oi5x10) (v := ?v5x10) ?hi5x10 (by kernel_rfl) (by kernel_rfl) (by kernel_rfl) ?hq5x10 ?hy5x10 hHeld ?rest5x10
    case hi5x10 => ((try simp only [List.getElem?_toArray, List.getElem?_cons_succ, List.getElem?_cons_zero]); (try rfl))
    case hq5x10 => exact fun _ _ _ h => h
    case hy5x10 => exact Or.inl ⟨by rfl, by intro w hSw; clear hSw; go_simp; try with_reducible rfl⟩
    try simp only [Act.put, List.setIfInBounds_toArray, List.set_cons_zero, List.set_cons_succ]
    refine wpAnyH_take (i := 6) (oi := ?oi6x11) (v := undef) ?hi6x11 (by kernel_rfl) (by kernel_rfl) (by kernel_rfl) ?hq6x11 ?hy6x11 hHeld ?rest6x11
    case hi6x11 => ((try simp only [List.getElem?_toArray, List.getElem?_cons_succ, List.getElem?_cons_zero]); (try rfl))
    case hq6x11 => exact fun _ _ _ h => h
    case hy6x11 => exact Or.inr ⟨by rfl, rfl⟩
    try simp only [Act.put, List.setIfInBounds_toArray, List.set_cons_zero, List.set_cons_succ]
    refine wpAnyH_take (i := 7) (oi := ?oi7x12) (v := undef) ?hi7x12 (by kernel_rfl) (by kernel_rfl) (by kernel_rfl) ?hq7x12 ?hy7x12 hHeld ?rest7x12
    case hi7x12 => ((try simp only [List.getElem?_toArray, List.getElem?_cons_succ, List.getElem?_cons_zero]); (try rfl))
    case hq7x12 => exact fun _ _ _ h => h
    case hy7x12 => exact Or.inr ⟨by rfl, rfl⟩
    try simp only [Act.put, List.setIfInBounds_toArray, List.set_cons_zero, List.set_cons_succ]
    refine wpAnyH_take (i := 8) (oi := ?oi8x13) (v := undef) ?hi8x13 (by kernel_rfl) (by kernel_rfl) (by kernel_rfl) ?hq8x13 ?hy8x13 hHeld ?rest8x13
    case hi8x13 => ((try simp only [List.getElem?_toArray, List.getElem?_cons_succ, List.getElem?_cons_zero]); (try rfl))
    case hq8x13 => exact fun _ _ _ h => h
    case hy8x13 => exact Or.inr ⟨by rfl, rfl⟩
    try simp only [Act.put, List.setIfInBounds_toArray, List.set_cons_zero, List.set_cons_succ]
    refine wpAnyH_take (i := 9) (oi := ?oi9x14) (v := undef) ?hi9x14 (by kernel_rfl) (by kernel_rfl) (by kernel_rfl) ?hq9x14 ?hy9x14 hHeld ?rest9x14
    case hi9x14 => ((try simp only [List.getElem?_toArray, List.getElem?_cons_succ, List.getElem?_cons_zero]); (try rfl))
    case hq9x14 => exact fun _ _ _ h => h
    case hy9x14 => exact Or.inr ⟨by rfl, rfl⟩
    try simp only [Act.put, List.setIfInBounds_toArray, List.set_cons_zero, List.set_cons_succ]
    refine wpAnyH_take (i := 10) (oi := ?oi10x15) (v := undef) ?hi10x15 (by kernel_rfl) (by kernel_rfl) (by kernel_rfl) ?hq10x15 ?hy10x15 hHeld ?rest10x15
    case hi10x15 => ((try simp only [List.getElem?_toArray, List.getElem?_cons_succ, List.getElem?_cons_zero]); (try rfl))
    case hq10x15 => exact fun _ _ _ h => h
    case hy10x15 => exact Or.inr ⟨by rfl, rfl⟩
    try simp only [Act.put, List.setIfInBounds_toArray, List.set_cons_zero, List.set_cons_succ]
    refine wpAnyH_take (i := 11) (oi := ?oi11x16) (v := ?v11x16) ?hi11x16 (by kernel_rfl) (by kernel_rfl) (by kernel_rfl) ?hq11x16 ?hy11x16 hHeld ?rest11x16
    case hi11x16 => ((try simp only [List.getElem?_toArray, List.getElem?_cons_succ, List.getElem?_cons_zero]); (try rfl))
    case hq11x16 => exact fun _ _ _ h => h
    case hy11x16 => exact Or.inl ⟨by rfl, by intro w hSw; clear hSw; go_simp; try with_reducible rfl⟩
    try simp only [Act.put, List.setIfInBounds_toArray, List.set_cons_zero, List.set_cons_succ]
    refine wpAnyH_take (i := 12) (oi := ?oi12x17) (v := ?v12x17) ?hi12x17 (by kernel_rfl) (by kernel_rfl) (by kernel_rfl) ?hq12x17 ?hy12x17 hHeld ?rest12x17
    case hi12x17 => ((try simp only [List.getElem?_toArray, List.getElem?_cons_succ, List.getElem?_cons_zero]); (try rfl))
    case hq12x17 => exact fun _ _ _ h => h
    case hy12x17 => exact Or.inl ⟨by rfl, by intro w hSw; clear hSw; go_simp; try with_reducible rfl⟩
    try simp only [Act.put, List.setIfInBounds_toArray, List.set_cons_zero, List.set_cons_succ]
    refine wpAnyH_done (by kernel_rfl) ?_ _
    clear hHeld
    clear KS
    go_wp2_with fail
    exact bodyPost_ret (results_tmp rfl _ _ _) rfl ⟨rfl, FQ.out.below⟩
end Tw
end Go.Proofs.YtjgcbeihgeaimaaGreatDoor
/-
  The night: between.
-/
namespace Go.Proofs.YtjgcbeihgeaimaaGreatDoor
namespace Tw
open Go.RowKit Lw Tk _root_.Go.Proofs.YtjgcbeihgeaimaaGreatDoor.Op Ow

set_option maxRecDepth 100000 in
set_option maxHeartbeats 8000000 in
theorem between_any (n c i j k B off : Nat) (u : Rl) (a b d : Ob) (w : World) (hP : PairAt w B off n i j a b) (hQ : PairAt w B off n i k a d) (hu : okR u) :
    Calls Tryz.prog 19 #[ntV (some ⟨B, off, none⟩) n c u, .int .i64 i, .int .i64 j, .int .i64 k] w fun e w' => e = .returned (.bool (decide (btw u a b d))) ∧ Below w.heap.size w w' := by
  have AW1 := Lib.hid (fun w' (hb : Below w.heap.size w w') => away_any n c i j B off u a b w' (hP.below hb))
  have AW2 := Lib.hid (fun w' (hb : Below w.heap.size w w') => away_any n c i k B off u a d w' (hQ.below hb))
  have SA := Lib.hid (fun w' (hb : Below w.heap.size w w') => (hP.below hb).siteA)
  have SD := Lib.hid (fun w' (hb : Below w.heap.size w w') => (hQ.below hb).siteB)
  have hd := hP.dif
  have he := hQ.dif
  have PL := Lib.hid (fun w' => product_any u.off (dT a b) w' (by obtain ⟨-, -, ⟨h1, h2⟩, -⟩ := hu; omega) (by have := hd.t0; have := hd.t1; omega))
  have PX1 := Lib.hid (fun w' => product_any (dX a d) (dT a b) w' (by have := he.x0; have := he.x1; omega) (by have := hd.t0; have := hd.t1; omega))
  have PX2 := Lib.hid (fun w' => product_any (dX a b) (dT a d) w' (by have := hd.x0; have := hd.x1; omega) (by have := he.t0; have := he.t1; omega))
  have PY1 := Lib.hid (fun w' => product_any (dY a d) (dT a b) w' (by have := he.y0; have := he.y1; omega) (by have := hd.t0; have := hd.t1; omega))
  have PY2 := Lib.hid (fun w' => product_any (dY a b) (dT a d) w' (by have := hd.y0; have := hd.y1; omega) (by have := he.t0; have := he.t1; omega))
  have MX := Lib.hid (fun w' => minus_any (sgn (dX a d) (dT a b)) (sgn (dX a b) (dT a d)) (mag (dX a d) (dT a b)) (mag (dX a b) (dT a d)) w' (mag_lt (by have := he.x0; have := he.x1; omega) (by have := hd.t0; have := hd.t1; omega)) (mag_lt (by have := hd.x0; have := hd.x1; omega) (by have := he.t0; have := he.t1; omega)))
  have MY := Lib.hid (fun w' => minus_any (sgn (dY a d) (dT a b)) (sgn (dY a b) (dT a d)) (mag (dY a d) (dT a b)) (mag (dY a b) (dT a d)) w' (mag_lt (by have := he.y0; have := he.y1; omega) (by have := hd.t0; have := hd.t1; omega)) (mag_lt (by have := hd.y0; have := hd.y1; omega) (by have := he.t0; have := he.t1; omega)))
  rw [minus_is] at MX MY
  have F0 := Lib.hid ((Fr.start w).alloc (ntC (some ⟨B, off, none⟩) n c u) 49)
  have i0 : (0 : Int) ≤ (i : Int) := by omega
  have i1 : (i : Int) < (n : Int) := by have := hP.hi; omega
  have j0 : (0 : Int) ≤ (j : Int) := by omega
  have j1 : (j : Int) < (n : Int) := by have := hP.hj; omega
  have k0 : (0 : Int) ≤ (k : Int) := by omega
  have k1 : (k : Int) < (n : Int) := by have := hQ.hj; omega
  have YES : Hid (d.site = a.site → 0 < dT a d → dT a d < dT a b → (dX a d * dT a b - dX a b * dT a d).natAbs ≤ mag u.off (dT a b) → (dY a d * dT a b - dY a b * dT a d).natAbs ≤ mag u.off (dT a b) → decide (btw u a b d) = true) := Lib.hid (fun h1 h2 h3 h4 h5 => decide_eq_true ⟨h1, h2, h3, h4, h5⟩)
  have NOX : Hid (¬ (dX a d * dT a b - dX a b * dT a d).natAbs ≤ mag u.off (dT a b) → decide (btw u a b d) = false) := Lib.hid (fun h1 => decide_eq_false (fun h => h1 h.2.2.2.1))
  have NOY : Hid (¬ (dY a d * dT a b - dY a b * dT a d).natAbs ≤ mag u.off (dT a b) → decide (btw u a b d) = false) := Lib.hid (fun h1 => decide_eq_false (fun h => h1 h.2.2.2.2))
  have NOS : Hid (¬ (d.site = a.site ∧ 0 < dT a d ∧ dT a d < dT a b) → decide (btw u a b d) = false) := Lib.hid (fun h1 => decide_eq_false (fun h => h1 ⟨h.1, h.2.1, h.2.2.1⟩))
  generalize decide (btw u a b d) = R at *
  clear hP hQ hu hd he
  go_enter Tryz.func19, Tryz.ntmps19
  go_wp2_with fail
  refine (AW1.out _ F0.out.below).mono ?_
  rintro e w1 ⟨rfl, hb⟩
  generalize hX1 : (dX a d * dT a b - dX a b * dT a d).natAbs = mx at *
  generalize hY1 : (dY a d * dT a b - dY a b * dT a d).natAbs = my at *
  clear hX1 hY1
  generalize dX a b = dx at *
  generalize dY a b = dy at *
  generalize dT a b = dt at *
  generalize dX a d = ex at *
  generalize dY a d = ey at *
  generalize dT a d = ds at *
  generalize sgn ex dt = s1 at *
  generalize mag ex dt = m1 at *
  generalize sgn dx ds = s2 at *
  generalize mag dx ds = m2 at *
  generalize sgn ey dt = s3 at *
  generalize mag ey dt = m3 at *
  generalize sgn dy ds = s4 at *
  generalize mag dy ds = m4 at *
  generalize sgn u.off dt = sl at *
  generalize mag u.off dt = ml at *
  have F1 := Lib.hid ((F0.out.call hb).alloc [.int .i64 dx, .int .i64 dy] 73)
  have cn0 := F1.out.cell 1 0 rfl rfl
  have cn1 := F1.out.cell 1 1 rfl rfl
  have cn2 := F1.out.cell 1 2 rfl rfl
  have cn3 := F1.out.cell 1 3 rfl rfl
  have cn4 := F1.out.cell 1 4 rfl rfl
  have cn5 := F1.out.cell 1 5 rfl rfl
  clear hb AW1 F0
  go_wp2_with fail
  refine (AW2.out _ F1.out.below).mono ?_
  rintro e w2 ⟨rfl, hb⟩
  have F2 := Lib.hid ((F1.out.call hb).alloc [.int .i64 ex, .int .i64 ey] 73)
  clear cn0 cn1 cn2 cn3 cn4 cn5
  have cn0 := F2.out.cell 2 0 rfl rfl
  have cn1 := F2.out.cell 2 1 rfl rfl
  have cn2 := F2.out.cell 2 2 rfl rfl
  have cn3 := F2.out.cell 2 3 rfl rfl
  have cn4 := F2.out.cell 2 4 rfl rfl
  have cn5 := F2.out.cell 2 5 rfl rfl
  have sa := SA.out _ F2.out.below
  have sd := SD.out _ F2.out.below
  clear hb AW2 F1
  go_wp2_with fail
  by_cases hs : d.site = a.site
  rotate_left
  · have es := site_ne hs
    obtain rfl := NOS.out (fun h => hs h.1)
    clear YES NOX NOY NOS PL PX1 PX2 PY1 PY2 MX MY SA SD
    go_quiet (fail)
    go_wp2_with fail
    exact bodyPost_ret (results_tmp rfl _ _ _) rfl ⟨rfl, drewN_below2 F2.out.below _⟩
  have es := site_eq hs
  by_cases h1 : ds ≤ 0
  · obtain rfl := NOS.out (fun h => by omega)
    clear YES NOX NOY NOS PL PX1 PX2 PY1 PY2 MX MY SA SD
    go_quiet (fail)
    go_wp2_with fail
    exact bodyPost_ret (results_tmp rfl _ _ _) rfl ⟨rfl, drewN_below2 F2.out.below _⟩
  by_cases h2 : dt ≤ ds
  · obtain rfl := NOS.out (fun h => by omega)
    clear YES NOX NOY NOS PL PX1 PX2 PY1 PY2 MX MY SA SD
    go_quiet (fail)
    go_wp2_with fail
    exact bodyPost_ret (results_tmp rfl _ _ _) rfl ⟨rfl, drewN_below2 F2.out.below _⟩
  have YES2 := Lib.hid (YES.out hs (by omega) (by omega))
  clear NOS SA SD YES
  go_quiet (fail)
  have F3 := Lib.hid (F2.out.drewN nq)
  clear F2 sa sd es cn0 cn1 cn2 cn3 cn4 cn5
  have cn0 := F3.out.cell 2 0 rfl rfl
  have cn1 := F3.out.cell 2 1 rfl rfl
  have cn2 := F3.out.cell 2 2 rfl rfl
  have cn3 := F3.out.cell 2 3 rfl rfl
  have cn4 := F3.out.cell 2 4 rfl rfl
  have cn5 := F3.out.cell 2 5 rfl rfl
  go_wp2_with fail
  refine (PL.out _).mono ?_
  rintro e w3 ⟨rfl, hb⟩
  have F4 := Lib.hid ((F3.out.call hb).alloc (sgC sl ml) 77)
  clear hb PL F3 cn0 cn1 cn2 cn3 cn4 cn5
  go_wp2_with fail
  generalize w3.alloc (.cells (sgC sl ml).toArray 77) = wa at *
  have KS := fun w' (h : Fr w [(w3.heap.size, sgC sl ml), (w2.heap.size, [.int .i64 ex, .int .i64 ey]), (w1.heap.size, [.int .i64 dx, .int .i64 dy]), (w.heap.size, ntC (some ⟨B, off, none⟩) n c u)] w') => (show w'.cell? ⟨w2.heap.size, 0, none⟩ = some (.int .i64 ex) ∧ w'.cell? ⟨w2.heap.size, 1, none⟩ = some (.int .i64 ey) ∧ w'.cell? ⟨w1.heap.size, 0, none⟩ = some (.int .i64 dx) ∧ w'.cell? ⟨w1.heap.size, 1, none⟩ = some (.int .i64 dy) ∧ w'.cell? ⟨w3.heap.size, 0, none⟩ = some (.bool sl) ∧ w'.cell? ⟨w3.heap.size, 1, none⟩ = some (.int .u64 ((ml : Int) / 18446744073709551616)) ∧ w'.cell? ⟨w3.heap.size, 2, none⟩ = some (.int .u64 ((ml : Int) % 18446744073709551616)) from ⟨h.cell 1 0 rfl rfl, h.cell 1 1 rfl rfl, h.cell 2 0 rfl rfl, h.cell 2 1 rfl rfl, h.cell 0 0 rfl rfl, h.cell 0 1 rfl rfl, h.cell 0 2 rfl rfl⟩)
  go_loopw [56] (fun z wr => ((z = .int .i64 0) ∨ (z = .int .i64 1 ∧ mx ≤ ml) ∨ (z = .int .i64 2 ∧ mx ≤ ml ∧ my ≤ ml)) ∧ Hid (Fr w [(w3.heap.size, sgC sl ml), (w2.heap.size, [.int .i64 ex, .int .i64 ey]), (w1.heap.size, [.int .i64 dx, .int .i64 dy]), (w.heap.size, ntC (some ⟨B, off, none⟩) n c u)] wr)) (fun z _ => (2 - intOf z).toNat)
  case atStart => exact ⟨Or.inl rfl, F4⟩
  case round =>
    clear F4
    obtain ⟨hz, FQ⟩ := hrel
    rcases hz with rfl | ⟨rfl, hx⟩ | ⟨rfl, hx, hy⟩
    ·
      go_wp2_with fail
      refine wp_region_held_drew (S := fun w' => w'.cell? ⟨w2.heap.size, 0, none⟩ = some (.int .i64 ex) ∧ w'.cell? ⟨w2.heap.size, 1, none⟩ = some (.int .i64 ey) ∧ w'.cell? ⟨w1.heap.size, 0, none⟩ = some (.int .i64 dx) ∧ w'.cell? ⟨w1.heap.size, 1, none⟩ = some (.int .i64 dy) ∧ w'.cell? ⟨w3.heap.size, 0, none⟩ = some (.bool sl) ∧ w'.cell? ⟨w3.heap.size, 1, none⟩ = some (.int .u64 ((ml : Int) / 18446744073709551616)) ∧ w'.cell? ⟨w3.heap.size, 2, none⟩ = some (.int .u64 ((ml : Int) % 18446744073709551616))) (by kernel_rfl) (KS _ FQ.out.drew) (fun hHeld => ?_)
      have FQ := Lib.hid FQ.out.drew
      refine wpAnyH_take (i := 0) (oi := ?oi0x1) (v := ?v0x1) ?hi0x1 (by kernel_rfl) (by kernel_rfl) (by kernel_rfl) ?hq0x1 ?hy0x1 hHeld ?rest0x1
      case hi0x1 => ((try simp only [List.getElem?_toArray, List.getElem?_cons_succ, List.getElem?_cons_zero]); (try rfl))
      case hq0x1 => exact fun _ _ _ h => h
      case hy0x1 => exact Or.inl ⟨by rfl, by intro w hSw; clear hSw; go_simp; try with_reducible rfl⟩
      try simp only [Act.put, List.setIfInBounds_toArray, List.set_cons_zero, List.set_cons_succ]
      refine wpAnyH_take (i := 1) (oi := ?oi1x2) (v := ?v1x2) ?hi1x2 (by kernel_rfl) (by kernel_rfl) (by kernel_rfl) ?hq1x2 ?hy1x2 hHeld ?rest1x2
      case hi1x2 => ((try simp only [List.getElem?_toArray, List.getElem?_cons_succ, List.getElem?_cons_zero]); (try rfl))
      case hq1x2 => exact fun _ _ _ h => h
      case hy1x2 => exact Or.inl ⟨by rfl, by intro w hSw; clear hSw; go_simp; try with_reducible rfl⟩
      try simp only [Act.put, List.setIfInBounds_toArray, List.set_cons_zero, List.set_cons_succ]
      refine wpAnyH_take (i := 2) (oi := ?oi2x3) (v := ?v2x3) ?hi2x3 (by kernel_rfl) (by kernel_rfl) (by kernel_rfl) ?hq2x3 ?hy2x3 hHeld ?rest2x3
      case hi2x3 => ((try simp only [List.getElem?_toArray, List.getElem?_cons_succ, List.getElem?_cons_zero]); (try rfl))
      case hq2x3 => exact fun _ _ _ h => h
      case hy2x3 => exact Or.inl ⟨by rfl, by intro w hSw; obtain ⟨s0, s1, s2, s3, s4, s5, s6⟩ := hSw; go_simp; try with_reducible rfl⟩
      try simp only [Act.put, List.setIfInBounds_toArray, List.set_cons_zero, List.set_cons_succ]
      refine wpAnyH_take (i := 3) (oi := ?oi3x4) (v := ?v3x4) ?hi3x4 (by kernel_rfl) (by kernel_rfl) (by kernel_rfl) ?hq3x4 ?hy3x4 hHeld ?rest3x4
      case hi3x4 => ((try simp only [List.getElem?_toArray, List.getElem?_cons_succ, List.getElem?_cons_zero]); (try rfl))
      case hq3x4 => exact fun _ _ _ h => h
      case hy3x4 => exact Or.inl ⟨by rfl, by intro w hSw; clear hSw; go_simp; try with_reducible rfl⟩
      try simp only [Act.put, List.setIfInBounds_toArray, List.set_cons_zero, List.set_cons_succ]
      refine wpAnyH_take (i := 5) (oi := ?oi5x5) (v := ?v5x5) ?hi5x5 (by kernel_rfl) (by kernel_rfl) (by kernel_rfl) ?hq5x5 ?hy5x5 hHeld ?rest5x5
      case hi5x5 => ((try simp only [List.getElem?_toArray, List.getElem?_cons_succ, List.getElem?_cons_zero]); (try rfl))
      case hq5x5 => exact fun _ _ _ h => h
      case hy5x5 => exact Or.inl ⟨by rfl, by intro w hSw; clear hSw; go_simp; try with_reducible rfl⟩
      try simp only [Act.put, List.setIfInBounds_toArray, List.set_cons_zero, List.set_cons_succ]
      refine wpAnyH_take (i := 6) (oi := ?oi6x6) (v := ?v6x6) ?hi6x6 (by kernel_rfl) (by kernel_rfl) (by kernel_rfl) ?hq6x6 ?hy6x6 hHeld ?rest6x6
      case hi6x6 => ((try simp only [List.getElem?_toArray, List.getElem?_cons_succ, List.getElem?_cons_zero]); (try rfl))
      case hq6x6 => exact fun _ _ _ h => h
      case hy6x6 => exact Or.inl ⟨by rfl, by intro w hSw; clear hSw; go_simp; try with_reducible rfl⟩
      try simp only [Act.put, List.setIfInBounds_toArray, List.set_cons_zero, List.set_cons_succ]
      refine wpAnyH_take (i := 7) (oi := ?oi7x7) (v := ?v7x7) ?hi7x7 (by kernel_rfl) (by kernel_rfl) (by kernel_rfl) ?hq7x7 ?hy7x7 hHeld ?rest7x7
      case hi7x7 => ((try simp only [List.getElem?_toArray, List.getElem?_cons_succ, List.getElem?_cons_zero]); (try rfl))
      case hq7x7 => exact fun _ _ _ h => h
      case hy7x7 => exact Or.inl ⟨by rfl, by intro w hSw; obtain ⟨s0, s1, s2, s3, s4, s5, s6⟩ := hSw; go_simp; try with_reducible rfl⟩
      try simp only [Act.put, List.setIfInBounds_toArray, List.set_cons_zero, List.set_cons_succ]
      refine wpAnyH_take (i := 8) (oi := ?oi8x8) (v := ?v8x8) ?hi8x8 (by kernel_rfl) (by kernel_rfl) (by kernel_rfl) ?hq8x8 ?hy8x8 hHeld ?rest8x8
      case hi8x8 => ((try simp only [List.getElem?_toArray, List.getElem?_cons_succ, List.getElem?_cons_zero]); (try rfl))
      case hq8x8 => exact fun _ _ _ h => h
      case hy8x8 => exact Or.inl ⟨by rfl, by intro w hSw; clear hSw; go_simp; try with_reducible rfl⟩
      try simp only [Act.put, List.setIfInBounds_toArray, List.set_cons_zero, List.set_cons_succ]
      refine wpAnyH_take (i := 11) (oi := ?oi11x9) (v := ?v11x9) ?hi11x9 (by kernel_rfl) (by kernel_rfl) (by kernel_rfl) ?hq11x9 ?hy11x9 hHeld ?rest11x9
      case hi11x9 => ((try simp only [List.getElem?_toArray, List.getElem?_cons_succ, List.getElem?_cons_zero]); (try rfl))
      case hq11x9 => exact fun _ _ _ h => h
      case hy11x9 => exact Or.inl ⟨by rfl, by intro w hSw; obtain ⟨s0, s1, s2, s3, s4, s5, s6⟩ := hSw; go_simp; try with_reducible rfl⟩
      try simp only [Act.put, List.setIfInBounds_toArray, List.set_cons_zero, List.set_cons_succ]
      refine wpAnyH_ready (rs := [4]) (by kernel_rfl) (by simp) ?_
      refine AllReadyH.cons rfl (fun K' hK => ?_) AllReadyH.nil
      clear hHeld
      go_simp
      refine (PX1.out _).mono ?_
      rintro e w4 ⟨rfl, hb⟩
      have FQ := Lib.hid (FQ.out.call hb)
      clear hb
      refine hK.out _ _ (KS _ FQ.out) (fun hHeld => ?_)
      clear hK
      try simp only [Act.put, List.setIfInBounds_toArray, List.set_cons_zero, List.set_cons_succ]
      refine wpAnyH_ready (rs := [9]) (by kernel_rfl) (by simp) ?_
      refine AllReadyH.cons rfl (fun K' hK => ?_) AllReadyH.nil
      clear hHeld
      go_simp
      refine (PX2.out _).mono ?_
      rintro e w5 ⟨rfl, hb⟩
      have FQ := Lib.hid (FQ.out.call hb)
      clear hb
      refine hK.out _ _ (KS _ FQ.out) (fun hHeld => ?_)
      clear hK
      try simp only [Act.put, List.setIfInBounds_toArray, List.set_cons_zero, List.set_cons_succ]
      refine wpAnyH_ready (rs := [10]) (by kernel_rfl) (by simp) ?_
      refine AllReadyH.cons rfl (fun K' hK => ?_) AllReadyH.nil
      clear hHeld
      go_simp
      refine (MX.out _).mono ?_
      rintro e w6 ⟨rfl, hb⟩
      have FQ := Lib.hid (FQ.out.call hb)
      clear hb
      refine hK.out _ _ (KS _ FQ.out) (fun hHeld => ?_)
      clear hK
      try simp only [Act.put, List.setIfInBounds_toArray, List.set_cons_zero, List.set_cons_succ]
      refine wpAnyH_ready (rs := [12]) (by kernel_rfl) (by simp) ?_
      refine AllReadyH.cons rfl (fun K' hK => ?_) AllReadyH.nil
      clear hHeld
      go_simp
      refine (atmost_any false sl mx ml _).mono ?_
      rintro e w7 ⟨rfl, hb⟩
      have FQ := Lib.hid (FQ.out.call hb)
      clear hb
      refine hK.out _ _ (KS _ FQ.out) (fun hHeld => ?_)
      clear hK
      try simp only [Act.put, List.setIfInBounds_toArray, List.set_cons_zero, List.set_cons_succ]
      refine wpAnyH_take (i := 13) (oi := ?oi13x10) (v := ?v13x10) ?hi13x10 (by kernel_rfl) (by kernel_rfl) (by kernel_rfl) ?hq13x10 ?hy13x10 hHeld ?rest13x10
      case hi13x10 => ((try simp only [List.getElem?_toArray, List.getElem?_cons_succ, List.getElem?_cons_zero]); (try rfl))
      case hq13x10 => exact fun _ _ _ h => h
      case hy13x10 => exact Or.inl ⟨by rfl, by intro w hSw; clear hSw; go_simp; try with_reducible rfl⟩
      try simp only [Act.put, List.setIfInBounds_toArray, List.set_cons_zero, List.set_cons_succ]
      refine wpAnyH_done (by kernel_rfl) ?_ _
      clear hHeld
      by_cases hc : mx ≤ ml
      ·
        rw [decide_eq_true hc]
        go_wp2_with fail
        go_roundw
        case rel => exact ⟨Or.inr (Or.inl ⟨rfl, hc⟩), FQ⟩
        case measure => simp [intOf]
      ·
        rw [decide_eq_false hc]
        obtain rfl := NOX.out hc
        clear YES2 NOX NOY
        go_wp2_with fail
        exact bodyPost_ret (results_tmp rfl _ _ _) rfl ⟨rfl, FQ.out.below⟩
    ·
      go_wp2_with fail
      refine wp_region_held_drew (S := fun w' => w'.cell? ⟨w2.heap.size, 0, none⟩ = some (.int .i64 ex) ∧ w'.cell? ⟨w2.heap.size, 1, none⟩ = some (.int .i64 ey) ∧ w'.cell? ⟨w1.heap.size, 0, none⟩ = some (.int .i64 dx) ∧ w'.cell? ⟨w1.heap.size, 1, none⟩ = some (.int .i64 dy) ∧ w'.cell? ⟨w3.heap.size, 0, none⟩ = some (.bool sl) ∧ w'.cell? ⟨w3.heap.size, 1, none⟩ = some (.int .u64 ((ml : Int) / 18446744073709551616)) ∧ w'.cell? ⟨w3.heap.size, 2, none⟩ = some (.int .u64 ((ml : Int) % 18446744073709551616))) (by kernel_rfl) (KS _ FQ.out.drew) (fun hHeld => ?_)
      have FQ := Lib.hid FQ.out.drew
      refine wpAnyH_take (i := 0) (oi := ?oi0x11) (v := ?v0x11) ?hi0x11 (by kernel_rfl) (by kernel_rfl) (by kernel_rfl) ?hq0x11 ?hy0x11 hHeld ?rest0x11
      case hi0x11 => ((try simp only [List.getElem?_toArray, List.getElem?_cons_succ, List.getElem?_cons_zero]); (try rfl))
      case hq0x11 => exact fun _ _ _ h => h
      case hy0x11 => exact Or.inl ⟨by rfl, by intro w hSw; clear hSw; go_simp; try with_reducible rfl⟩
      try simp only [Act.put, List.setIfInBounds_toArray, List.set_cons_zero, List.set_cons_succ]
      refine wpAnyH_take (i := 1) (oi := ?oi1x12) (v := ?v1x12) ?hi1x12 (by kernel_rfl) (by kernel_rfl) (by kernel_rfl) ?hq1x12 ?hy1x12 hHeld ?rest1x12
      case hi1x12 => ((try simp only [List.getElem?_toArray, List.getElem?_cons_succ, List.getElem?_cons_zero]); (try rfl))
      case hq1x12 => exact fun _ _ _ h => h
      case hy1x12 => exact Or.inl ⟨by rfl, by intro w hSw; clear hSw; go_simp; try with_reducible rfl⟩
      try simp only [Act.put, List.setIfInBounds_toArray, List.set_cons_zero, List.set_cons_succ]
      refine wpAnyH_take (i := 2) (oi := ?oi2x13) (v := ?v2x13) ?hi2x13 (by kernel_rfl) (by kernel_rfl) (by kernel_rfl) ?hq2x13 ?hy2x13 hHeld ?rest2x13
      case hi2x13 => ((try simp only [List.getElem?_toArray, List.getElem?_cons_succ, List.getElem?_cons_zero]); (try rfl))
      case hq2x13 => exact fun _ _ _ h => h
      case hy2x13 => exact Or.inl ⟨by rfl, by intro w hSw; obtain ⟨s0, s1, s2, s3, s4, s5, s6⟩ := hSw; go_simp; try with_reducible rfl⟩
      try simp only [Act.put, List.setIfInBounds_toArray, List.set_cons_zero, List.set_cons_succ]
      refine wpAnyH_take (i := 3) (oi := ?oi3x14) (v := ?v3x14) ?hi3x14 (by kernel_rfl) (by kernel_rfl) (by kernel_rfl) ?hq3x14 ?hy3x14 hHeld ?rest3x14
      case hi3x14 => ((try simp only [List.getElem?_toArray, List.getElem?_cons_succ, List.getElem?_cons_zero]); (try rfl))
      case hq3x14 => exact fun _ _ _ h => h
      case hy3x14 => exact Or.inl ⟨by rfl, by intro w hSw; clear hSw; go_simp; try with_reducible rfl⟩
      try simp only [Act.put, List.setIfInBounds_toArray, List.set_cons_zero, List.set_cons_succ]
      refine wpAnyH_take (i := 5) (oi := ?oi5x15) (v := ?v5x15) ?hi5x15 (by kernel_rfl) (by kernel_rfl) (by kernel_rfl) ?hq5x15 ?hy5x15 hHeld ?rest5x15
      case hi5x15 => ((try simp only [List.getElem?_toArray, List.getElem?_cons_succ, List.getElem?_cons_zero]); (try rfl))
      case hq5x15 => exact fun _ _ _ h => h
      case hy5x15 => exact Or.inl ⟨by rfl, by intro w hSw; clear hSw; go_simp; try with_reducible rfl⟩
      try simp only [Act.put, List.setIfInBounds_toArray, List.set_cons_zero, List.set_cons_succ]
      refine wpAnyH_take (i := 6) (oi := ?oi6x16) (v := ?v6x16) ?hi6x16 (by kernel_rfl) (by kernel_rfl) (by kernel_rfl) ?hq6x16 ?hy6x16 hHeld ?rest6x16
      case hi6x16 => ((try simp only [List.getElem?_toArray, List.getElem?_cons_succ, List.getElem?_cons_zero]); (try rfl))
      case hq6x16 => exact fun _ _ _ h => h
      case hy6x16 => exact Or.inl ⟨by rfl, by intro w hSw; clear hSw; go_simp; try with_reducible rfl⟩
      try simp only [Act.put, List.setIfInBounds_toArray, List.set_cons_zero, List.set_cons_succ]
      refine wpAnyH_take (i := 7) (oi := ?oi7x17) (v := ?v7x17) ?hi7x17 (by kernel_rfl) (by kernel_rfl) (by kernel_rfl) ?hq7x17 ?hy7x17 hHeld ?rest7x17
      case hi7x17 => ((try simp only [List.getElem?_toArray, List.getElem?_cons_succ, List.getElem?_cons_zero]); (try rfl))
      case hq7x17 => exact fun _ _ _ h => h
      case hy7x17 => exact Or.inl ⟨by rfl, by intro w hSw; obtain ⟨s0, s1, s2, s3, s4, s5, s6⟩ := hSw; go_simp; try with_reducible rfl⟩
      try simp only [Act.put, List.setIfInBounds_toArray, List.set_cons_zero, List.set_cons_succ]
      refine wpAnyH_take (i := 8) (oi := ?oi8x18) (v := ?v8x18) ?hi8x18 (by kernel_rfl) (by kernel_rfl) (by kernel_rfl) ?hq8x18 ?hy8x18 hHeld ?rest8x18
      case hi8x18 => ((try simp only [List.getElem?_toArray, List.getElem?_cons_succ, List.getElem?_cons_zero]); (try rfl))
      case hq8x18 => exact fun _ _ _ h => h
      case hy8x18 => exact Or.inl ⟨by rfl, by intro w hSw; clear hSw; go_simp; try with_reducible rfl⟩
      try simp only [Act.put, List.setIfInBounds_toArray, List.set_cons_zero, List.set_cons_succ]
      refine wpAnyH_take (i := 11) (oi := ?oi11x19) (v := ?v11x19) ?hi11x19 (by kernel_rfl) (by kernel_rfl) (by kernel_rfl) ?hq11x19 ?hy11x19 hHeld ?rest11x19
      case hi11x19 => ((try simp only [List.getElem?_toArray, List.getElem?_cons_succ, List.getElem?_cons_zero]); (try rfl))
      case hq11x19 => exact fun _ _ _ h => h
      case hy11x19 => exact Or.inl ⟨by rfl, by intro w hSw; obtain ⟨s0, s1, s2, s3, s4, s5, s6⟩ := hSw; go_simp; try with_reducible rfl⟩
      try simp only [Act.put, List.setIfInBounds_toArray, List.set_cons_zero, List.set_cons_succ]
      refine wpAnyH_ready (rs := [4]) (by kernel_rfl) (by simp) ?_
      refine AllReadyH.cons rfl (fun K' hK => ?_) AllReadyH.nil
      clear hHeld
      go_simp
      refine (PY1.out _).mono ?_
      rintro e w4 ⟨rfl, hb⟩
      have FQ := Lib.hid (FQ.out.call hb)
      clear hb
      refine hK.out _ _ (KS _ FQ.out) (fun hHeld => ?_)
      clear hK
      try simp only [Act.put, List.setIfInBounds_toArray, List.set_cons_zero, List.set_cons_succ]
      refine wpAnyH_ready (rs := [9]) (by kernel_rfl) (by simp) ?_
      refine AllReadyH.cons rfl (fun K' hK => ?_) AllReadyH.nil
      clear hHeld
      go_simp
      refine (PY2.out _).mono ?_
      rintro e w5 ⟨rfl, hb⟩
      have FQ := Lib.hid (FQ.out.call hb)
      clear hb
      refine hK.out _ _ (KS _ FQ.out) (fun hHeld => ?_)
      clear hK
      try simp only [Act.put, List.setIfInBounds_toArray, List.set_cons_zero, List.set_cons_succ]
      refine wpAnyH_ready (rs := [10]) (by kernel_rfl) (by simp) ?_
      refine AllReadyH.cons rfl (fun K' hK => ?_) AllReadyH.nil
      clear hHeld
      go_simp
      refine (MY.out _).mono ?_
      rintro e w6 ⟨rfl, hb⟩
      have FQ := Lib.hid (FQ.out.call hb)
      clear hb
      refine hK.out _ _ (KS _ FQ.out) (fun hHeld => ?_)
      clear hK
      try simp only [Act.put, List.setIfInBounds_toArray, List.set_cons_zero, List.set_cons_succ]
      refine wpAnyH_ready (rs := [12]) (by kernel_rfl) (by simp) ?_
      refine AllReadyH.cons rfl (fun K' hK => ?_) AllReadyH.nil
      clear hHeld
      go_simp
      refine (atmost_any false sl my ml _).mono ?_
      rintro e w7 ⟨rfl, hb⟩
      have FQ := Lib.hid (FQ.out.call hb)
      clear hb
      refine hK.out _ _ (KS _ FQ.out) (fun hHeld => ?_)
      clear hK
      try simp only [Act.put, List.setIfInBounds_toArray, List.set_cons_zero, List.set_cons_succ]
      refine wpAnyH_take (i := 13) (oi := ?oi13x20) (v := ?v13x20) ?hi13x20 (by kernel_rfl) (by kernel_rfl) (by kernel_rfl) ?hq13x20 ?hy13x20 hHeld ?rest13x20
      case hi13x20 => ((try simp only [List.getElem?_toArray, List.getElem?_cons_succ, List.getElem?_cons_zero]); (try rfl))
      case hq13x20 => exact fun _ _ _ h => h
      case hy13x20 => exact Or.inl ⟨by rfl, by intro w hSw; clear hSw; go_simp; try with_reducible rfl⟩
      try simp only [Act.put, List.setIfInBounds_toArray, List.set_cons_zero, List.set_cons_succ]
      refine wpAnyH_done (by kernel_rfl) ?_ _
      clear hHeld
      by_cases hc : my ≤ ml
      ·
        rw [decide_eq_true hc]
        go_wp2_with fail
        go_roundw
        case rel => exact ⟨Or.inr (Or.inr ⟨rfl, hx, hc⟩), FQ⟩
        case measure => simp [intOf]
      ·
        rw [decide_eq_false hc]
        obtain rfl := NOY.out hc
        clear YES2 NOX NOY
        go_wp2_with fail
        exact bodyPost_ret (results_tmp rfl _ _ _) rfl ⟨rfl, FQ.out.below⟩
    ·
      obtain rfl := YES2.out hx hy
      clear YES2 NOX NOY KS
      go_wp2_with fail
      exact bodyPost_ret (results_tmp rfl _ _ _) rfl ⟨rfl, FQ.out.below⟩
end Tw
end Go.Proofs.YtjgcbeihgeaimaaGreatDoor
/-
  Observations and a rule are checked: checkAll, start; Spots, Start.
-/
namespace Go.Proofs.YtjgcbeihgeaimaaGreatDoor
namespace Tw
open Go.RowKit Lw Tk _root_.Go.Proofs.YtjgcbeihgeaimaaGreatDoor.Op Ow

def allT (l : List Ob) : Int := if 200 < l.length then 4 else if ∀ o ∈ l, okO o then 0 else 8
theorem allT_zero {l : List Ob} (h : l.length ≤ 200) (g : ∀ o ∈ l, okO o) : allT l = 0 := by unfold allT; rw [if_neg (by omega), if_pos g]
theorem allT_many {l : List Ob} (h : 200 < l.length) : allT l = 4 := by unfold allT; rw [if_pos h]
theorem allT_bad {l : List Ob} {i : Nat} (h : l.length ≤ 200) (hi : i < l.length) (g : ¬ okO l[i]) : allT l = 8 := by
  unfold allT; rw [if_neg (by omega), if_neg (fun k => g (k _ (List.getElem_mem hi)))]
theorem allT_ok {l : List Ob} (h : allT l = 0) : l.length ≤ 200 ∧ ∀ o ∈ l, okO o := by
  unfold allT at h
  by_cases c : 200 < l.length
  · rw [if_pos c] at h; cases h
  · rw [if_neg c] at h
    by_cases d : ∀ o ∈ l, okO o
    · exact ⟨by omega, d⟩
    · rw [if_neg d] at h; cases h
def stT (l : List Ob) (u : Rl) : Int := if allT l = 0 then ckR u else allT l
theorem stT_ok {l : List Ob} {u : Rl} (h : stT l u = 0) : l.length ≤ 200 ∧ (∀ o ∈ l, okO o) ∧ okR u := by
  unfold stT at h
  by_cases c : allT l = 0
  · rw [if_pos c] at h
    refine ⟨(allT_ok c).1, (allT_ok c).2, ?_⟩
    unfold ckR at h
    by_cases d : okR u
    · exact d
    · rw [if_neg d] at h; cases h
  · rw [if_neg c] at h; exact absurd h c
set_option maxRecDepth 100000 in
set_option maxHeartbeats 8000000 in
theorem spots_any (x : Option Addr) (cap : Nat) (l : List Ob) (w : World) (hE : ES w) (hl : SlA w x l) (hm : l.length ≤ 1000000) (hb : OBs l) :
    Calls Tryz.prog 29 #[.slice x l.length cap] w fun e w' => e = .returned (.int .i64 (allT l)) ∧ Below w.heap.size w w' := by
  have HL := Lib.hid (fun w' (h : Below w.heap.size w w') => hl.below h)
  have HE := Lib.hid (fun w' (h : Below w.heap.size w w') => hE.below h)
  have CK := Lib.hid (fun i (h : i < l.length) w' (g : ES w') => check_any (l[i]'h) w' g (hb i h).t0 (hb i h).t1 (hb i h).b0 (hb i h).b1 (hb i h).n1 (hb i h).n2)
  obtain ⟨n, hnl⟩ : ∃ n, l.length = n := ⟨_, rfl⟩
  have GM : Hid (200 < n → allT l = 4) := Lib.hid (fun h => allT_many (by omega))
  have GB : Hid (n ≤ 200 → ∀ i (h : i < l.length), ¬ okO (l[i]'h) → allT l = 8) := Lib.hid (fun a i h g => allT_bad (by omega) h g)
  have GZ : Hid (n ≤ 200 → (∀ i (h : i < l.length), okO (l[i]'h)) → allT l = 0) := Lib.hid (fun a g => allT_zero (by omega) (fun o ho => by
    obtain ⟨i, hi, rfl⟩ := List.getElem_of_mem ho
    exact g i hi))
  generalize allT l = K at *
  rw [hnl] at hm ⊢
  have NL := Lib.hid hnl
  clear hl hE hb hnl
  by_cases h5 : 200 < n
  · have h5' : (200 : Int) < (n : Int) := by omega
    obtain rfl := GM.out h5
    clear CK GM GB GZ HL HE NL
    go_enter Tryz.func29, Tryz.ntmps29
    go_wp2_with fail
    go_ret
    exact ⟨rfl, Below.refl _ _⟩
  · have h5' : ¬ (200 : Int) < (n : Int) := by omega
    clear GM
    go_enter Tryz.func29, Tryz.ntmps29
    go_wp2_with fail
    go_loopw [11] (fun i wr => ∃ k : Nat, k ≤ n ∧ i = .int .i64 k ∧ Hid (∀ j (h : j < l.length), j < k → okO (l[j]'h)) ∧ Hid (Below w.heap.size w wr)) (fun i _ => n - (intOf i).toNat)
    case atStart => exact ⟨0, Nat.zero_le _, rfl, Lib.hid (fun j _ h => by omega), Lib.hid (Below.refl _ _)⟩
    case round =>
      obtain ⟨k, hk, rfl, D, B⟩ := hrel
      by_cases hlt : k < n
      · have hkl : k < l.length := by rw [NL.out]; exact hlt
        obtain ⟨b, off, rfl, lt, row⟩ := (HL.out _ B.out).get hkl
        have R := Lib.hid (row k hkl)
        have CKk := Lib.hid (CK.out k hkl)
        have GBk := Lib.hid (fun (g : ¬ okO (l[k]'hkl)) => GB.out (by omega) k hkl g)
        have DK := Lib.hid (fun (g : okO (l[k]'hkl)) => (show ∀ j (h : j < l.length), j < k + 1 → okO (l[j]'h) from fun j h hj => by
          by_cases e : j = k
          · subst e; exact g
          · exact D.out j h (by omega)))
        have i1 : (k : Int) < (n : Int) := by omega
        clear D GB GZ row lt CK
        generalize l[k]'hkl = o at *
        have X0 := Lib.hid (Box.new wr o)
        have B1 := Lib.hid (B.out.alloc B.out.size (.cells (obsC o).toArray 44))
        have E1 := Lib.hid (HE.out _ B1.out)
        clear B
        go_wp2_with (first | (refine wpList_store_new rfl _ (.tmp 4) (.tmp 14) rfl _ _ rfl rfl info8 rfl ?_ ?_; simp [Value.oneCell']) | (refine wpList_load_mid rfl _ (.tmp 13) rfl b (off + k * 8) rfl (obsC o) _ R.out Tryz.underlying44 rfl info8 ?_) | (refine wpList_load_mid rfl _ (.tmp 4) rfl wr.heap.size 0 rfl (obsC o) _ X0.out.row Tryz.underlying44 rfl info8 ?_))
        refine (CKk.out _ E1.out).mono ?_
        rintro e w2 ⟨rfl, hb2⟩
        have B2 := Lib.hid (below_then B1.out hb2)
        clear hb2 B1 E1 CKk X0 R
        by_cases ok : okO o
        · rw [show checkC o = 0 from if_pos ok]
          have D2 := Lib.hid (DK.out ok)
          clear DK GBk
          go_wp2_with fail
          go_roundw
          case rel => exact ⟨k + 1, by omega, by go_num, D2, B2⟩
          case measure => simp [intOf]; omega
        · rw [show checkC o = 8 from if_neg ok]
          obtain rfl := GBk.out ok
          clear DK
          go_wp2_with fail
          go_ret
          exact ⟨rfl, B2.out⟩
      · obtain rfl : k = n := by omega
        obtain rfl := GZ.out (by omega) (fun i hi => D.out i hi (by have := NL.out; omega))
        clear GZ D GB HL CK
        go_wp2_with fail
        go_ret
        exact ⟨rfl, B.out⟩
set_option maxRecDepth 100000 in
set_option maxHeartbeats 8000000 in
theorem rspots_any (x : Option Addr) (cap : Nat) (l : List Ob) (w : World) (hl : SlA w x l) (hm : l.length ≤ 1000000) (hb : OBs l) :
    Calls Tryz.prog 32 #[.slice x l.length cap] w fun e w' => e = .returned (.int .i64 (allT l)) ∧ Below w.heap.size w w' := by
  have HL := Lib.hid (fun w' (h : Below w.heap.size w w') => hl.below h)
  have CK := Lib.hid (fun i (h : i < l.length) w' => rcheck_any (l[i]'h) w' (hb i h).t0 (hb i h).t1 (hb i h).b0 (hb i h).b1 (hb i h).n1 (hb i h).n2)
  obtain ⟨n, hnl⟩ : ∃ n, l.length = n := ⟨_, rfl⟩
  have GM : Hid (200 < n → allT l = 4) := Lib.hid (fun h => allT_many (by omega))
  have GB : Hid (n ≤ 200 → ∀ i (h : i < l.length), ¬ okO (l[i]'h) → allT l = 8) := Lib.hid (fun a i h g => allT_bad (by omega) h g)
  have GZ : Hid (n ≤ 200 → (∀ i (h : i < l.length), okO (l[i]'h)) → allT l = 0) := Lib.hid (fun a g => allT_zero (by omega) (fun o ho => by
    obtain ⟨i, hi, rfl⟩ := List.getElem_of_mem ho
    exact g i hi))
  generalize allT l = K at *
  rw [hnl] at hm ⊢
  have NL := Lib.hid hnl
  clear hl hb hnl
  by_cases h5 : 200 < n
  · have h5' : (200 : Int) < (n : Int) := by omega
    obtain rfl := GM.out h5
    clear CK GM GB GZ HL NL
    go_enter Tryz.func32, Tryz.ntmps32
    go_wp2_with fail
    go_ret
    exact ⟨rfl, Below.refl _ _⟩
  · have h5' : ¬ (200 : Int) < (n : Int) := by omega
    clear GM
    go_enter Tryz.func32, Tryz.ntmps32
    go_wp2_with fail
    go_loopw [3] (fun i wr => ∃ k : Nat, k ≤ n ∧ i = .int .i64 k ∧ Hid (∀ j (h : j < l.length), j < k → okO (l[j]'h)) ∧ Hid (Below w.heap.size w wr)) (fun i _ => n - (intOf i).toNat)
    case atStart => exact ⟨0, Nat.zero_le _, rfl, Lib.hid (fun j _ h => by omega), Lib.hid (Below.refl _ _)⟩
    case round =>
      obtain ⟨k, hk, rfl, D, B⟩ := hrel
      by_cases hlt : k < n
      · have hkl : k < l.length := by rw [NL.out]; exact hlt
        obtain ⟨b, off, rfl, lt, row⟩ := (HL.out _ B.out).get hkl
        have R := Lib.hid (row k hkl)
        have CKk := Lib.hid (CK.out k hkl)
        have GBk := Lib.hid (fun (g : ¬ okO (l[k]'hkl)) => GB.out (by omega) k hkl g)
        have DK := Lib.hid (fun (g : okO (l[k]'hkl)) => (show ∀ j (h : j < l.length), j < k + 1 → okO (l[j]'h) from fun j h hj => by
          by_cases e : j = k
          · subst e; exact g
          · exact D.out j h (by omega)))
        have i1 : (k : Int) < (n : Int) := by omega
        clear D GB GZ row lt CK
        generalize l[k]'hkl = o at *
        go_wp2_with (refine wpList_load_mid rfl _ (.tmp 15) rfl b (off + k * 8) rfl (obsC o) _ R.out Tryz.underlying44 rfl info8 ?_)
        refine (CKk.out _).mono ?_
        rintro e w2 ⟨rfl, hb2⟩
        have B2 := Lib.hid (below_then B.out hb2)
        clear hb2 B CKk R
        by_cases ok : okO o
        · rw [show checkC o = 0 from if_pos ok]
          have D2 := Lib.hid (DK.out ok)
          clear DK GBk
          go_wp2_with fail
          go_roundw
          case rel => exact ⟨k + 1, by omega, by go_num, D2, B2⟩
          case measure => simp [intOf]; omega
        · rw [show checkC o = 8 from if_neg ok]
          obtain rfl := GBk.out ok
          clear DK
          go_wp2_with fail
          go_ret
          exact ⟨rfl, B2.out⟩
      · obtain rfl : k = n := by omega
        obtain rfl := GZ.out (by omega) (fun i hi => D.out i hi (by have := NL.out; omega))
        clear GZ D GB HL CK
        go_wp2_with fail
        go_ret
        exact ⟨rfl, B.out⟩
set_option maxRecDepth 100000 in
set_option maxHeartbeats 4000000 in
theorem start_any (x : Option Addr) (cap : Nat) (l : List Ob) (u : Rl) (w : World) (hE : ES w) (hl : SlA w x l) (hm : l.length ≤ 1000000) (hb : OBs l) :
    Calls Tryz.prog 14 #[.slice x l.length cap, rlV u] w fun e w' => e = .returned (.int .i64 (stT l u)) ∧ Below w.heap.size w w' := by
  have F0 := Lib.hid ((Fr.start w).alloc (rlC u) 24)
  have CK := Lib.hid (fun w' (h : Below w.heap.size w w') => spots_any x cap l w' (hE.below h) (hl.below h) hm hb)
  have RU := Lib.hid (fun w' => rule_any u w')
  have E0 : Hid (allT l = 0 → stT l u = ckR u) := Lib.hid (fun h => by unfold stT; rw [if_pos h])
  have E1 : Hid (¬ allT l = 0 → stT l u = allT l) := Lib.hid (fun h => by unfold stT; rw [if_neg h])
  generalize stT l u = R at *
  generalize allT l = c at *
  clear hl hm hb hE
  generalize l.length = n at *
  go_enter Tryz.func14, Tryz.ntmps14
  go_wp2_with fail
  refine (CK.out _ F0.out.below).mono ?_
  rintro e w1 ⟨rfl, hb⟩
  have F1 := F0.out.call hb
  have c0 := F1.cell 0 0 rfl rfl
  have c1 := F1.cell 0 1 rfl rfl
  have c2 := F1.cell 0 2 rfl rfl
  have c3 := F1.cell 0 3 rfl rfl
  have c4 := F1.cell 0 4 rfl rfl
  have F1 := Lib.hid F1
  clear hb CK F0
  by_cases hc : c = 0
  · subst hc
    obtain rfl := E0.out rfl
    clear E0 E1
    go_wp2_with fail
    refine (RU.out _).mono ?_
    rintro e w2 ⟨rfl, hb⟩
    have F2 := Lib.hid (F1.out.call hb)
    clear hb
    go_wp2_with fail
    exact bodyPost_ret (results_tmp rfl _ _ _) rfl ⟨rfl, F2.out.below⟩
  · obtain rfl := E1.out hc
    clear E0 E1
    go_wp2_with fail
    exact bodyPost_ret (results_tmp rfl _ _ _) rfl ⟨rfl, F1.out.below⟩
set_option maxRecDepth 100000 in
set_option maxHeartbeats 4000000 in
theorem rstart_any (x : Option Addr) (cap : Nat) (l : List Ob) (u : Rl) (w : World) (hl : SlA w x l) (hm : l.length ≤ 1000000) (hb : OBs l) :
    Calls Tryz.prog 16 #[.slice x l.length cap, rlV u] w fun e w' => e = .returned (.int .i64 (stT l u)) ∧ Below w.heap.size w w' := by
  have F0 := Lib.hid ((Fr.start w).alloc (rlC u) 24)
  have CK := Lib.hid (fun w' (h : Below w.heap.size w w') => rspots_any x cap l w' (hl.below h) hm hb)
  have RU := Lib.hid (fun w' => rrule_any u w')
  have E0 : Hid (allT l = 0 → stT l u = ckR u) := Lib.hid (fun h => by unfold stT; rw [if_pos h])
  have E1 : Hid (¬ allT l = 0 → stT l u = allT l) := Lib.hid (fun h => by unfold stT; rw [if_neg h])
  generalize stT l u = R at *
  generalize allT l = c at *
  clear hl hm hb
  generalize l.length = n at *
  go_enter Tryz.func16, Tryz.ntmps16
  go_wp2_with fail
  refine (CK.out _ F0.out.below).mono ?_
  rintro e w1 ⟨rfl, hb⟩
  have F1 := F0.out.call hb
  have c0 := F1.cell 0 0 rfl rfl
  have c1 := F1.cell 0 1 rfl rfl
  have c2 := F1.cell 0 2 rfl rfl
  have c3 := F1.cell 0 3 rfl rfl
  have c4 := F1.cell 0 4 rfl rfl
  have F1 := Lib.hid F1
  clear hb CK F0
  by_cases hc : c = 0
  · subst hc
    obtain rfl := E0.out rfl
    clear E0 E1
    go_wp2_with fail
    refine (RU.out _).mono ?_
    rintro e w2 ⟨rfl, hb⟩
    have F2 := Lib.hid (F1.out.call hb)
    clear hb
    go_wp2_with fail
    exact bodyPost_ret (results_tmp rfl _ _ _) rfl ⟨rfl, F2.out.below⟩
  · obtain rfl := E1.out hc
    clear E0 E1
    go_wp2_with fail
    exact bodyPost_ret (results_tmp rfl _ _ _) rfl ⟨rfl, F1.out.below⟩
end Tw
end Go.Proofs.YtjgcbeihgeaimaaGreatDoor
/-
  Great of the reference of tracklets.
-/
namespace Go.Proofs.YtjgcbeihgeaimaaGreatDoor
namespace Tw
open Go.RowKit Lw Ow Tk Go.Proofs.YtjgcbeihgeaimaaGreatDoor.Ap Go.Proofs.YtjgcbeihgeaimaaGreatDoor.Op Go.Proofs.YtjgcbeihgeaimaaGreatDoor.Mp Go.Proofs.YtjgcbeihgeaimaaGreatDoor.Mw

def greatT (l : List Ob) (most : Int) : Bool := decide ((∃ o ∈ l, longP o) ∨ (most < l.length ∧ (l.length : Int) ≤ 200) ∨ 210 < (l.length : Int))
theorem greatT_yes {l : List Ob} {most : Int} {i : Nat} (h : i < l.length) (g : longP l[i]) : greatT l most = true := decide_eq_true (Or.inl ⟨_, List.getElem_mem h, g⟩)
theorem greatT_no {l : List Ob} {most : Int} (h : ∀ i (hi : i < l.length), ¬ longP (l[i]'hi)) : greatT l most = decide ((most < l.length ∧ (l.length : Int) ≤ 200) ∨ 210 < (l.length : Int)) := by
  refine decide_eq_decide.2 ⟨fun g => ?_, fun g => Or.inr g⟩
  rcases g with ⟨o, ho, g⟩ | g
  · obtain ⟨i, hi, rfl⟩ := List.getElem_of_mem ho
    exact absurd g (h i hi)
  · exact g
set_option maxRecDepth 100000 in
set_option maxHeartbeats 4000000 in
theorem tgreat_wide (b off cap : Nat) (l : List Ob) (most : Int) (w : World) (hl : ObsAt w b off l) (hm : l.length ≤ 9223372036854775807) (hn : ∀ o ∈ l, o.name.size ≤ maxLen ∧ o.site.size ≤ maxLen) :
    Calls Tryz.prog 4 #[.slice (some ⟨b, off, none⟩) l.length cap, .int .i64 most] w fun e w' => e = .returned (.bool (greatT l most)) ∧ w = w' := by
  have HL := Lib.hid hl
  have HN := Lib.hid hn
  have GY := Lib.hid (fun i (h : i < l.length) (g : longP l[i]) => greatT_yes (most := most) h g)
  obtain ⟨n, hnl⟩ : ∃ n, l.length = n := ⟨_, rfl⟩
  have GN : Hid ((∀ i (hi : i < l.length), ¬ longP (l[i]'hi)) → greatT l most = decide ((most < (n : Int) ∧ (n : Int) ≤ 200) ∨ 210 < (n : Int))) := Lib.hid fun h => by rw [greatT_no h, hnl]
  clear hl hn
  generalize greatT l most = gb at *
  rw [hnl] at hm ⊢
  have NL := Lib.hid hnl
  clear hnl
  go_enter Tryz.func4, Tryz.ntmps4
  go_wp2_with fail
  go_loop [5] (fun i => ∃ k : Nat, k ≤ n ∧ i = .int .i64 k ∧ Hid (∀ j (h : j < l.length), j < k → ¬ longP (l[j]'h))) (fun i => n - (intOf i).toNat)
  case atStart => exact ⟨0, Nat.zero_le _, rfl, Lib.hid (fun j _ h => by omega)⟩
  case round =>
    obtain ⟨k, hk, rfl, D⟩ := hrel
    by_cases hlt : k < n
    · have hkl : k < l.length := by rw [NL.out]; exact hlt
      have r := HL.out k hkl
      have q0 := r 0 _ rfl
      have q1 := r 1 _ rfl
      rw [Nat.add_zero] at q0
      have i1 : (k : Int) < (n : Int) := by omega
      have GYk := Lib.hid (GY.out k hkl)
      have DK := Lib.hid (fun (g : ¬ longP (l[k]'hkl)) => (show ∀ j (h : j < l.length), j < k + 1 → ¬ longP (l[j]'h) from fun j h hj => by
        by_cases e : j = k
        · subst e; exact g
        · exact D.out j h (by omega)))
      have zz := HN.out _ (List.getElem_mem hkl)
      unfold longP maxLen at *
      clear r D
      generalize (l[k]'hkl).name = nm at *
      generalize (l[k]'hkl).site = st at *
      obtain ⟨z1, z2⟩ := zz
      by_cases g1 : 100 < nm.size
      · have e := Lib.hid (GYk.out (Or.inl g1))
        have g1' : (100 : Int) < nm.size := by omega
        clear GYk DK
        go_wp2_with fail
        go_ret
        exact ⟨by rw [e.out]; rfl, rfl⟩
      · have g1' : ¬ (100 : Int) < nm.size := by omega
        by_cases g2 : 100 < st.size
        · have e := Lib.hid (GYk.out (Or.inr g2))
          have g2' : (100 : Int) < st.size := by omega
          clear GYk DK
          go_wp2_with fail
          go_ret
          exact ⟨by rw [e.out]; rfl, rfl⟩
        · have g2' : ¬ (100 : Int) < st.size := by omega
          have D2 := Lib.hid (DK.out (fun h => h.elim g1 g2))
          clear GYk DK
          go_wp2_with fail
          go_round
          case rel => exact ⟨k + 1, by omega, by go_num, D2⟩
          case measure => simp [intOf]; omega
    · obtain rfl : k = n := by omega
      have E := Lib.hid (GN.out (fun i hi => D.out i hi (by have := NL.out; omega)))
      clear GN D GY HN
      by_cases c1 : most < (k : Int)
      · by_cases c2 : (k : Int) ≤ 200
        · rw [decide_eq_true (Or.inl ⟨c1, c2⟩)] at E
          go_wp2_with fail
          go_ret
          exact ⟨by rw [E.out]; rfl, rfl⟩
        · by_cases c3 : 210 < (k : Int)
          · rw [decide_eq_true (Or.inr c3)] at E
            go_wp2_with fail
            go_ret
            exact ⟨by rw [E.out]; rfl, rfl⟩
          · rw [decide_eq_false (fun h => h.elim (fun x => c2 x.2) c3)] at E
            go_wp2_with fail
            go_ret
            exact ⟨by rw [E.out]; rfl, rfl⟩
      · by_cases c3 : 210 < (k : Int)
        · rw [decide_eq_true (Or.inr c3)] at E
          go_wp2_with fail
          go_ret
          exact ⟨by rw [E.out]; rfl, rfl⟩
        · rw [decide_eq_false (fun h => h.elim (fun x => c1 x.1) c3)] at E
          go_wp2_with fail
          go_ret
          exact ⟨by rw [E.out]; rfl, rfl⟩
set_option maxRecDepth 100000 in
set_option maxHeartbeats 40000000 in
theorem tgreat_nil (x : Option Addr) (cap : Nat) (w : World) : Calls Tryz.prog 4 #[.slice x 0 cap, .int .i64 9] w fun e w' => e = .returned (.bool false) ∧ w = w' := by
  go_enter Tryz.func4, Tryz.ntmps4
  go_wp2_with fail
  go_loop [5] (fun i => i = .int .i64 0) (fun i => 0 - (intOf i).toNat)
  case atStart => exact rfl
  case round =>
    obtain rfl := hrel
    go_wp2_with fail
    go_ret
    exact ⟨rfl, rfl⟩
theorem tgreat_sl (x : Option Addr) (cap : Nat) (l : List Ob) (w : World) (hx : SlA w x l) (hm : l.length ≤ 9223372036854775807) (hb : OBs l) :
    Calls Tryz.prog 4 #[.slice x l.length cap, .int .i64 9] w fun e w' => e = .returned (.bool (greatT l 9)) ∧ w = w' := by
  rcases hx with rfl | ⟨b, off, rfl, _, h⟩
  · refine (tgreat_nil x cap w).mono ?_
    rintro e w' ⟨rfl, rfl⟩
    exact ⟨rfl, rfl⟩
  · exact tgreat_wide b off cap l 9 w h hm (fun o ho => by
      obtain ⟨i, hi, rfl⟩ := List.getElem_of_mem ho
      exact ⟨(hb i hi).n1, (hb i hi).n2⟩)
theorem greatT_len {l : List Ob} (h : greatT l 9 = false) : l.length ≤ 9 ∨ (200 < l.length ∧ l.length ≤ 210) := by
  have := of_decide_eq_false h
  rcases Nat.lt_or_ge 210 l.length with g | g
  · exact absurd (Or.inr (Or.inr (by omega))) this
  · rcases Nat.lt_or_ge 200 l.length with k | k
    · exact Or.inr ⟨k, g⟩
    · rcases Nat.lt_or_ge 9 l.length with m | m
      · exact absurd (Or.inr (Or.inl ⟨by omega, by omega⟩)) this
      · exact Or.inl m
end Tw
end Go.Proofs.YtjgcbeihgeaimaaGreatDoor
/-
  Slices that a call owns, of any elements: reading and append.
-/
namespace Go.Proofs.YtjgcbeihgeaimaaGreatDoor
namespace Tw
open Go.RowKit Lw Ow

section
variable {α : Type} {E : TypeId} {k : Nat} {enc : α → List Value}
/-- A slice of the call's own. -/
def OwnG (E : TypeId) (k : Nat) (enc : α → List Value) (w : World) (B : Nat) (v : Value) (l : List α) : Prop := w.ownsRow B E k v l.length (l.flatMap enc) ∧ B ≤ w.heap.size
theorem flat_get (hk : ∀ x, (enc x).length = k) {l : List α} {i j : Nat} {v : Value} (hi : i < l.length) (h : (enc l[i])[j]? = some v) : (l.flatMap enc)[i * k + j]? = some v := by
  have hj : j < k := by
    have := (List.getElem?_eq_some_iff.1 h).1
    rwa [hk] at this
  induction l generalizing i with
  | nil => simp at hi
  | cons a l ih =>
    rw [List.flatMap_cons]
    match i, hi, h with
    | 0, _, h =>
      rw [Nat.zero_mul, Nat.zero_add, List.getElem?_append_left (by rw [hk]; exact hj)]
      exact h
    | i + 1, hi, h =>
      have hi' : i < l.length := by simpa using hi
      rw [List.getElem?_append_right (by rw [hk, Nat.succ_mul]; omega), hk, show (i + 1) * k + j - k = i * k + j by rw [Nat.succ_mul]; omega]
      exact ih hi' (by simpa using h)
theorem OwnG.nil (w : World) (B : Nat) (h : B ≤ w.heap.size) : OwnG E k enc w B (.slice none 0 0) [] := ⟨World.ownsRow_nil _ _ _ _, h⟩
theorem OwnG.below {w w' : World} {B : Nat} {v : Value} {l : List α} (h : OwnG E k enc w B v l) (hb : Below w.heap.size w w') : OwnG E k enc w' B v l := ⟨ownsRow_below h.1 hb, Nat.le_trans h.2 hb.size⟩
/-- A slice's rows. -/
structure RowsG (k : Nat) (enc : α → List Value) (w : World) (A : Option Addr) (l : List α) : Prop where
  row : ∀ i (h : i < l.length), ∃ g, A = some ⟨g, 0, none⟩ ∧ g < w.heap.size ∧ w.rangeAt g (i * k) (enc (l[i]'h))
theorem RowsG.below {w w' : World} {A : Option Addr} {l : List α} (h : RowsG k enc w A l) (hb : Below w.heap.size w w') : RowsG k enc w' A l :=
  ⟨fun i hi => by
    obtain ⟨g, e, lt, r⟩ := h.row i hi
    exact ⟨g, e, Nat.lt_of_lt_of_le lt hb.size, rangeAt_below r hb lt⟩⟩
theorem OwnG.form (hk : ∀ x, (enc x).length = k) {w : World} {B : Nat} {v : Value} {l : List α} (h : OwnG E k enc w B v l) : ∃ A cap, v = .slice A l.length cap ∧ RowsG k enc w A l ∧ ∀ g o, A = some ⟨g, o, none⟩ → B ≤ g := by
  have hc := fun (g : Nat) (hg : v.ownBlock = some g) => h.1.cells hg
  rcases h.1.2 with ⟨hv, hn⟩ | ⟨g, cap, cur, hv, hb, hh, r⟩
  · have : l = [] := List.length_eq_zero_iff.1 hn
    subst this
    exact ⟨none, 0, hv, ⟨fun i hi => by simp at hi⟩, fun g o e => by cases e⟩
  · have lt : g < w.heap.size := by
      rcases Nat.lt_or_ge g w.heap.size with h | h
      · exact h
      · rw [Array.getElem?_eq_none h] at hh; cases hh
    refine ⟨_, cap, hv, ⟨fun i hi => ⟨g, rfl, lt, fun j x hx => ?_⟩⟩, fun g' o e => by cases e; exact hb⟩
    have e := hc g (by rw [hv]; rfl) (i * k + j) x (flat_get hk hi hx)
    rw [Addr.add_mid] at e
    rwa [Nat.zero_add] at e
theorem newsG {w : World} {b : Nat} {cs : List Value} (h : w.rangeAt b 0 cs) : ∀ j u, cs[j]? = some u → w.cell? ((⟨b, 0, none⟩ : Addr).add j) = some u := fun j u hj => by
  rw [Addr.add_mid]; exact h j u hj
/-- append, as the walk meets it: the element lies in a block of its own. -/
theorem wp_appG (T : TypeId) (z : Value) (bytes : Nat) (hinfo : (Tryz.prog.info? E).map (fun i => (i.zero, i.size, i.bytes)) = some (some z, k, bytes)) (hu : Tryz.prog.underlying T = some (.slice E)) (hz : z.cells.size = k) (h0 : 0 < k) (hb9 : bytes ≤ 1000)
    (hk : ∀ x, (enc x).length = k) (h1 : ∀ x, ∀ u ∈ enc x, u.oneCell' = true)
    {ops : Array Oper} {rest : List Oper} {o : Oper} {a : Act} {Q : Exit → Act → World → Prop} (w : World) (hgd : o.guard = none) (s x : Operand)
    (ho : o.op = .call { callee := .builtin .append, args := #[s, x], argTypes := #[T, T] })
    (B : Nat) (v : Value) (l : List α) (q : α) (hs : a.eval s = v) (hx : a.eval x = .slice (some ⟨w.heap.size, 0, none⟩) 1 1) (hown : OwnG E k enc w B v l) (hl : l.length ≤ 1000000)
    (h : ∀ v' w', OwnG E k enc w' B v' (l ++ [q]) → Below B w w' → wpList Tryz.prog ops Q rest (a.put o.dst v') w') : wpList Tryz.prog ops Q (o :: rest) a (w.alloc (.cells (enc q).toArray E)) := by
  obtain ⟨i0, hi, hz0, hz1, hz2⟩ := info_parts hinfo
  have ho' := hown.1.alloc (.cells (enc q).toArray E)
  have nw := newsG (rangeAt_new w (enc q) E)
  have b1 : Below B w (w.alloc (.cells (enc q).toArray E)) := (Below.refl _ _).alloc hown.2 _
  refine wpList_append_own _ hgd s x T ho B E i0 z k bytes hu hi hz0 hz1 hz2 hz h0 v l.length (l.flatMap enc) hs ho' ⟨w.heap.size, 0, none⟩ 1 1 (enc q) hx (by rw [hk, Nat.one_mul]) nw (h1 q) (by unfold maxLen; omega) (Nat.le_trans (Nat.mul_le_mul (show l.length + 1 ≤ 1000001 by omega) hb9) (by decide)) (Nat.le_trans hown.2 b1.size) ?_
  intro v' w' h1 h2 _
  have e : (l ++ [q]).flatMap enc = l.flatMap enc ++ enc q := by simp
  have hb : Below B w w' := b1.trans ((Below.refl B _).grown h2 (Nat.le_trans hown.2 b1.size) (fun k hk => (hown.1.lt k hk).1))
  refine h v' w' ⟨?_, Nat.le_trans hown.2 hb.size⟩ hb
  rw [e, List.length_append]
  exact h1
/-- The same in a round of a range over a function. -/
theorem wpIn_appG (T : TypeId) (z : Value) (bytes : Nat) (hinfo : (Tryz.prog.info? E).map (fun i => (i.zero, i.size, i.bytes)) = some (some z, k, bytes)) (hu : Tryz.prog.underlying T = some (.slice E)) (hz : z.cells.size = k) (h0 : 0 < k) (hb9 : bytes ≤ 1000)
    (hk : ∀ x, (enc x).length = k) (h1 : ∀ x, ∀ u ∈ enc x, u.oneCell' = true)
    {F : Fence} {n : Nat} {ops : Array Oper} {rest : List Oper} {o : Oper} {a : Act} {Q : Exit → Act → World → Prop} (w : World) (hgd : o.guard = none) (s x : Operand)
    (ho : o.op = .call { callee := .builtin .append, args := #[s, x], argTypes := #[T, T] })
    (B : Nat) (v : Value) (l : List α) (q : α) (hs : a.eval s = v) (hx : a.eval x = .slice (some ⟨w.heap.size, 0, none⟩) 1 1) (hown : OwnG E k enc w B v l) (hl : l.length ≤ 1000000)
    (h : ∀ v' w', OwnG E k enc w' B v' (l ++ [q]) → Below B w w' → (w.alloc (.cells (enc q).toArray E)).grownBy w' v.ownBlock → wpListIn F n Tryz.prog ops Q rest (a.put o.dst v') w') : wpListIn F n Tryz.prog ops Q (o :: rest) a (w.alloc (.cells (enc q).toArray E)) := by
  obtain ⟨i0, hi, hz0, hz1, hz2⟩ := info_parts hinfo
  have ho' := hown.1.alloc (.cells (enc q).toArray E)
  have nw := newsG (rangeAt_new w (enc q) E)
  have b1 : Below B w (w.alloc (.cells (enc q).toArray E)) := (Below.refl _ _).alloc hown.2 _
  refine wpListIn_append_own _ hgd s x T ho B E i0 z k bytes hu hi hz0 hz1 hz2 hz h0 v l.length (l.flatMap enc) hs ho' ⟨w.heap.size, 0, none⟩ 1 1 (enc q) hx (by rw [hk, Nat.one_mul]) nw (h1 q) (by unfold maxLen; omega) (Nat.le_trans (Nat.mul_le_mul (show l.length + 1 ≤ 1000001 by omega) hb9) (by decide)) (Nat.le_trans hown.2 b1.size) ?_
  intro v' w' h1 h2 _
  have e : (l ++ [q]).flatMap enc = l.flatMap enc ++ enc q := by simp
  have hb : Below B w w' := b1.trans ((Below.refl B _).grown h2 (Nat.le_trans hown.2 b1.size) (fun k hk => (hown.1.lt k hk).1))
  refine h v' w' ⟨?_, Nat.le_trans hown.2 hb.size⟩ hb h2
  rw [e, List.length_append]
  exact h1
end
/-! ### The elements -/
abbrev prE (p : Nat × Nat) : List Value := [.int .i64 (p.1 : Int), .int .i64 (p.2 : Int)]
theorem info_pr : (Tryz.prog.info? 51).map (fun i => (i.zero, i.size, i.bytes)) = some (some (.agg #[.int .i64 0, .int .i64 0]), 2, 16) := by kernel_rfl
theorem prE_one (p : Nat × Nat) : ∀ u ∈ prE p, u.oneCell' = true := fun u hu => by
  simp only [List.mem_cons, List.not_mem_nil, or_false] at hu
  rcases hu with rfl | rfl <;> rfl
abbrev inE (n : Nat) : List Value := [.int .i64 (n : Int)]
theorem info_in : (Tryz.prog.info? 3).map (fun i => (i.zero, i.size, i.bytes)) = some (some (.int .i64 0), 1, 8) := by kernel_rfl
theorem inE_one (p : Nat) : ∀ u ∈ inE p, u.oneCell' = true := fun u hu => by
  simp only [List.mem_cons, List.not_mem_nil, or_false] at hu
  subst hu; rfl
/-- A slice's header, as an element. -/
structure Sl where
  a : Option Addr
  n : Nat
  c : Nat
abbrev slE (s : Sl) : List Value := [.slice s.a s.n s.c]
theorem info_sl : (Tryz.prog.info? 62).map (fun i => (i.zero, i.size, i.bytes)) = some (some (.slice none 0 0), 1, 24) := by kernel_rfl
theorem slE_one (p : Sl) : ∀ u ∈ slE p, u.oneCell' = true := fun u hu => by
  simp only [List.mem_cons, List.not_mem_nil, or_false] at hu
  subst hu; rfl
abbrev mkE (x : Nat) : List Value := [.int .u64 (x : Int), .int .u64 0, .int .u64 0, .int .u64 0]
theorem info_mk : (Tryz.prog.info? 57).map (fun i => (i.zero, i.size, i.bytes)) = some (some (.agg #[.int .u64 0, .int .u64 0, .int .u64 0, .int .u64 0]), 4, 32) := by kernel_rfl
theorem mkE_one (p : Nat) : ∀ u ∈ mkE p, u.oneCell' = true := fun u hu => by
  simp only [List.mem_cons, List.not_mem_nil, or_false] at hu
  rcases hu with rfl | rfl | rfl | rfl <;> rfl
end Tw
end Go.Proofs.YtjgcbeihgeaimaaGreatDoor
