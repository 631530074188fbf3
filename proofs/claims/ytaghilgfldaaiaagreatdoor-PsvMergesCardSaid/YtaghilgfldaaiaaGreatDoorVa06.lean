/-
  Lemmas and walks, texts joined: OCmpW3, VRow, VTw, TDeg, ShelfV, PCut, PDegA, PDegB, PDeg, TAlive, BPl3, VDeg, VPl, VNeed.
-/
import Derived.WalkKit
import Derived.Lib.Hide
import Derived.Deep.MidRow
import Derived.Laws.IdiomCopy
import Derived.Below
import Derived.Deep.RegionHeld3
import Derived.Shelf.Small.Wraps
import Derived.Shelf.Strings.Prefix
import Derived.WalkLawsBesides
import Derived.Test.YtaghilgfldaaiaaGreatDoorVa05
import Derived.Test.YtaghilgfldaaiaaGreatDoorRows
import Derived.Test.YtaghilgfldaaiaaGreatDoorVa01
import Derived.Test.YtaghilgfldaaiaaGreatDoorVa04
import Derived.Test.YtaghilgfldaaiaaGreatDoorProg
import Derived.Test.YtaghilgfldaaiaaGreatDoorVa03
set_option linter.unusedSimpArgs false
set_option linter.unusedVariables false
/-
  The walk of Compare of the reference.
-/
namespace Go.Proofs.YtaghilgfldaaiaaGreatDoor
namespace Ow
open Go.RowKit Lw Go.Proofs.YtaghilgfldaaiaaGreatDoor.Ap Go.Proofs.YtaghilgfldaaiaaGreatDoor.Op Go.Proofs.YtaghilgfldaaiaaGreatDoor.Mp Go.Proofs.YtaghilgfldaaiaaGreatDoor.Mw Go.Proofs.YtaghilgfldaaiaaGreatDoor.At Go.Sort

set_option maxRecDepth 100000 in
set_option maxHeartbeats 40000000 in
theorem rcompare_any (x y : Ob) (w : World) (hx : 0 ≤ x.band ∧ x.band ≤ 255) (hy : 0 ≤ y.band ∧ y.band ≤ 255) : Calls Tryz.prog 25 #[obsV x, obsV y] w fun e w' => e = .returned (.int .i64 (cmpO x y)) ∧ Below w.heap.size w w' := by
  have L := Lib.hid (CX.new w x y 33)
  have CC := Lib.hid (fun b (w' : World) (h : w'.rangeAt b 0 (cmpC x y)) => cmpC_cell h)
  have BL := Lib.hid (show ∀ w', CX w w.heap.size x y w' → Below w.heap.size w w' from fun w' h => by
    obtain ⟨m, os, rfl⟩ := h.at_
    exact ⟨rfl, rfl, rfl, by simp [grow], fun k hk => by
      show ((w.drewN m).heap ++ os)[k]? = _
      rw [Array.getElem?_append_left (by exact hk)]; rfl⟩)
  obtain ⟨n0, s0, t0, r0, d0, g0, m0, b0⟩ := x
  obtain ⟨n1, s1, t1, r1, d1, g1, m1, b1⟩ := y
  obtain ⟨x0, x1⟩ := hx
  obtain ⟨y0, y1⟩ := hy
  simp only at x0 x1 y0 y1
  obtain ⟨cl, hcl⟩ : ∃ cl, cmpL ⟨n0, s0, t0, r0, d0, g0, m0, b0⟩ ⟨n1, s1, t1, r1, d1, g1, m1, b1⟩ = cl := ⟨_, rfl⟩
  have z8 : cl.length = 8 := by rw [← hcl]; rfl
  have E8 : Hid (∀ k (hk : k < cl.length), (∀ i (hi : i < cl.length), i < k → cl[i] = 0) → cl[k] ≠ 0 → cmpO ⟨n0, s0, t0, r0, d0, g0, m0, b0⟩ ⟨n1, s1, t1, r1, d1, g1, m1, b1⟩ = cl[k]) := Lib.hid (fun k hk h g => by subst hcl; exact orL_at hk h g)
  have E0 : Hid ((∀ i (hi : i < cl.length), cl[i] = 0) → cmpO ⟨n0, s0, t0, r0, d0, g0, m0, b0⟩ ⟨n1, s1, t1, r1, d1, g1, m1, b1⟩ = 0) := Lib.hid (fun h => by subst hcl; exact orL_zero h)
  clear CC
  have CC := Lib.hid (show ∀ b (w' : World), w'.rangeAt b 0 (cmpC ⟨n0, s0, t0, r0, d0, g0, m0, b0⟩ ⟨n1, s1, t1, r1, d1, g1, m1, b1⟩) → ∀ i (hi : i < cl.length), w'.cell? ⟨b, i, none⟩ = some (.int .i64 (cl[i]'hi)) from fun b w' h => by subst hcl; exact cmpC_cell h)
  clear hcl
  generalize cmpO ⟨n0, s0, t0, r0, d0, g0, m0, b0⟩ ⟨n1, s1, t1, r1, d1, g1, m1, b1⟩ = K at *
  have wx : IntKind.i64.wrap b0 = b0 := wrap_small _ (by omega) (by omega)
  have wy : IntKind.i64.wrap b1 = b1 := wrap_small _ (by omega) (by omega)
  go_enter Tryz.func25, Tryz.ntmps25
  go_wp2_with fail
  refine wp_region_held_drew (S := CX w w.heap.size ⟨n0, s0, t0, r0, d0, g0, m0, b0⟩ ⟨n1, s1, t1, r1, d1, g1, m1, b1⟩) (by kernel_rfl) L.out.drew (fun hHeld => ?_)
  clear L
  refine wpAnyH_take (i := 0) (oi := ?oi0x34) (v := ?v0x34) ?hi0x34 (by kernel_rfl) (by kernel_rfl) (by kernel_rfl) ?hq0x34 ?hy0x34 hHeld ?rest0x34
  case hi0x34 => ((try simp only [List.getElem?_toArray, List.getElem?_cons_succ, List.getElem?_cons_zero]); (try rfl))
  case hq0x34 => exact fun _ _ _ h => h
  case hy0x34 => exact Or.inl ⟨by rfl, by intro w hSw; clear hSw; go_simp; try with_reducible rfl⟩
  try simp only [Act.put, List.setIfInBounds_toArray, List.set_cons_zero, List.set_cons_succ]
  refine wpAnyH_take (i := 1) (oi := ?oi1x35) (v := ?v1x35) ?hi1x35 (by kernel_rfl) (by kernel_rfl) (by kernel_rfl) ?hq1x35 ?hy1x35 hHeld ?rest1x35
  case hi1x35 => ((try simp only [List.getElem?_toArray, List.getElem?_cons_succ, List.getElem?_cons_zero]); (try rfl))
  case hq1x35 => exact fun _ _ _ h => h
  case hy1x35 => exact Or.inl ⟨by rfl, by intro w hSw; have q := (CX.rx hSw) 2 _ rfl; clear hSw; simp only [Nat.zero_add] at q; go_simp; try with_reducible rfl⟩
  try simp only [Act.put, List.setIfInBounds_toArray, List.set_cons_zero, List.set_cons_succ]
  refine wpAnyH_take (i := 2) (oi := ?oi2x36) (v := ?v2x36) ?hi2x36 (by kernel_rfl) (by kernel_rfl) (by kernel_rfl) ?hq2x36 ?hy2x36 hHeld ?rest2x36
  case hi2x36 => ((try simp only [List.getElem?_toArray, List.getElem?_cons_succ, List.getElem?_cons_zero]); (try rfl))
  case hq2x36 => exact fun _ _ _ h => h
  case hy2x36 => exact Or.inl ⟨by rfl, by intro w hSw; clear hSw; go_simp; try with_reducible rfl⟩
  try simp only [Act.put, List.setIfInBounds_toArray, List.set_cons_zero, List.set_cons_succ]
  refine wpAnyH_take (i := 3) (oi := ?oi3x37) (v := ?v3x37) ?hi3x37 (by kernel_rfl) (by kernel_rfl) (by kernel_rfl) ?hq3x37 ?hy3x37 hHeld ?rest3x37
  case hi3x37 => ((try simp only [List.getElem?_toArray, List.getElem?_cons_succ, List.getElem?_cons_zero]); (try rfl))
  case hq3x37 => exact fun _ _ _ h => h
  case hy3x37 => exact Or.inl ⟨by rfl, by intro w hSw; have q := (CX.ry hSw) 2 _ rfl; clear hSw; simp only [Nat.zero_add] at q; go_simp; try with_reducible rfl⟩
  try simp only [Act.put, List.setIfInBounds_toArray, List.set_cons_zero, List.set_cons_succ]
  refine wpAnyH_take (i := 5) (oi := ?oi5x38) (v := ?v5x38) ?hi5x38 (by kernel_rfl) (by kernel_rfl) (by kernel_rfl) ?hq5x38 ?hy5x38 hHeld ?rest5x38
  case hi5x38 => ((try simp only [List.getElem?_toArray, List.getElem?_cons_succ, List.getElem?_cons_zero]); (try rfl))
  case hq5x38 => exact fun _ _ _ h => h
  case hy5x38 => exact Or.inl ⟨by rfl, by intro w hSw; clear hSw; go_simp; try with_reducible rfl⟩
  try simp only [Act.put, List.setIfInBounds_toArray, List.set_cons_zero, List.set_cons_succ]
  refine wpAnyH_take (i := 6) (oi := ?oi6x39) (v := ?v6x39) ?hi6x39 (by kernel_rfl) (by kernel_rfl) (by kernel_rfl) ?hq6x39 ?hy6x39 hHeld ?rest6x39
  case hi6x39 => ((try simp only [List.getElem?_toArray, List.getElem?_cons_succ, List.getElem?_cons_zero]); (try rfl))
  case hq6x39 => exact fun _ _ _ h => h
  case hy6x39 => exact Or.inl ⟨by rfl, by intro w hSw; have q := (CX.rx hSw) 1 _ rfl; clear hSw; simp only [Nat.zero_add] at q; go_simp; try with_reducible rfl⟩
  try simp only [Act.put, List.setIfInBounds_toArray, List.set_cons_zero, List.set_cons_succ]
  refine wpAnyH_take (i := 7) (oi := ?oi7x40) (v := ?v7x40) ?hi7x40 (by kernel_rfl) (by kernel_rfl) (by kernel_rfl) ?hq7x40 ?hy7x40 hHeld ?rest7x40
  case hi7x40 => ((try simp only [List.getElem?_toArray, List.getElem?_cons_succ, List.getElem?_cons_zero]); (try rfl))
  case hq7x40 => exact fun _ _ _ h => h
  case hy7x40 => exact Or.inl ⟨by rfl, by intro w hSw; clear hSw; go_simp; try with_reducible rfl⟩
  try simp only [Act.put, List.setIfInBounds_toArray, List.set_cons_zero, List.set_cons_succ]
  refine wpAnyH_take (i := 8) (oi := ?oi8x41) (v := ?v8x41) ?hi8x41 (by kernel_rfl) (by kernel_rfl) (by kernel_rfl) ?hq8x41 ?hy8x41 hHeld ?rest8x41
  case hi8x41 => ((try simp only [List.getElem?_toArray, List.getElem?_cons_succ, List.getElem?_cons_zero]); (try rfl))
  case hq8x41 => exact fun _ _ _ h => h
  case hy8x41 => exact Or.inl ⟨by rfl, by intro w hSw; have q := (CX.ry hSw) 1 _ rfl; clear hSw; simp only [Nat.zero_add] at q; go_simp; try with_reducible rfl⟩
  try simp only [Act.put, List.setIfInBounds_toArray, List.set_cons_zero, List.set_cons_succ]
  refine wpAnyH_take (i := 10) (oi := ?oi10x42) (v := ?v10x42) ?hi10x42 (by kernel_rfl) (by kernel_rfl) (by kernel_rfl) ?hq10x42 ?hy10x42 hHeld ?rest10x42
  case hi10x42 => ((try simp only [List.getElem?_toArray, List.getElem?_cons_succ, List.getElem?_cons_zero]); (try rfl))
  case hq10x42 => exact fun _ _ _ h => h
  case hy10x42 => exact Or.inl ⟨by rfl, by intro w hSw; clear hSw; go_simp; try with_reducible rfl⟩
  try simp only [Act.put, List.setIfInBounds_toArray, List.set_cons_zero, List.set_cons_succ]
  refine wpAnyH_take (i := 11) (oi := ?oi11x43) (v := ?v11x43) ?hi11x43 (by kernel_rfl) (by kernel_rfl) (by kernel_rfl) ?hq11x43 ?hy11x43 hHeld ?rest11x43
  case hi11x43 => ((try simp only [List.getElem?_toArray, List.getElem?_cons_succ, List.getElem?_cons_zero]); (try rfl))
  case hq11x43 => exact fun _ _ _ h => h
  case hy11x43 => exact Or.inl ⟨by rfl, by intro w hSw; have q := (CX.rx hSw) 0 _ rfl; clear hSw; simp only [Nat.zero_add] at q; go_simp; try with_reducible rfl⟩
  try simp only [Act.put, List.setIfInBounds_toArray, List.set_cons_zero, List.set_cons_succ]
  refine wpAnyH_take (i := 12) (oi := ?oi12x44) (v := ?v12x44) ?hi12x44 (by kernel_rfl) (by kernel_rfl) (by kernel_rfl) ?hq12x44 ?hy12x44 hHeld ?rest12x44
  case hi12x44 => ((try simp only [List.getElem?_toArray, List.getElem?_cons_succ, List.getElem?_cons_zero]); (try rfl))
  case hq12x44 => exact fun _ _ _ h => h
  case hy12x44 => exact Or.inl ⟨by rfl, by intro w hSw; clear hSw; go_simp; try with_reducible rfl⟩
  try simp only [Act.put, List.setIfInBounds_toArray, List.set_cons_zero, List.set_cons_succ]
  refine wpAnyH_take (i := 13) (oi := ?oi13x45) (v := ?v13x45) ?hi13x45 (by kernel_rfl) (by kernel_rfl) (by kernel_rfl) ?hq13x45 ?hy13x45 hHeld ?rest13x45
  case hi13x45 => ((try simp only [List.getElem?_toArray, List.getElem?_cons_succ, List.getElem?_cons_zero]); (try rfl))
  case hq13x45 => exact fun _ _ _ h => h
  case hy13x45 => exact Or.inl ⟨by rfl, by intro w hSw; have q := (CX.ry hSw) 0 _ rfl; clear hSw; simp only [Nat.zero_add] at q; go_simp; try with_reducible rfl⟩
  try simp only [Act.put, List.setIfInBounds_toArray, List.set_cons_zero, List.set_cons_succ]
  refine wpAnyH_take (i := 15) (oi := ?oi15x46) (v := ?v15x46) ?hi15x46 (by kernel_rfl) (by kernel_rfl) (by kernel_rfl) ?hq15x46 ?hy15x46 hHeld ?rest15x46
  case hi15x46 => ((try simp only [List.getElem?_toArray, List.getElem?_cons_succ, List.getElem?_cons_zero]); (try rfl))
  case hq15x46 => exact fun _ _ _ h => h
  case hy15x46 => exact Or.inl ⟨by rfl, by intro w hSw; clear hSw; go_simp; try with_reducible rfl⟩
  try simp only [Act.put, List.setIfInBounds_toArray, List.set_cons_zero, List.set_cons_succ]
  refine wpAnyH_take (i := 16) (oi := ?oi16x47) (v := ?v16x47) ?hi16x47 (by kernel_rfl) (by kernel_rfl) (by kernel_rfl) ?hq16x47 ?hy16x47 hHeld ?rest16x47
  case hi16x47 => ((try simp only [List.getElem?_toArray, List.getElem?_cons_succ, List.getElem?_cons_zero]); (try rfl))
  case hq16x47 => exact fun _ _ _ h => h
  case hy16x47 => exact Or.inl ⟨by rfl, by intro w hSw; have q := (CX.rx hSw) 3 _ rfl; clear hSw; simp only [Nat.zero_add] at q; go_simp; try with_reducible rfl⟩
  try simp only [Act.put, List.setIfInBounds_toArray, List.set_cons_zero, List.set_cons_succ]
  refine wpAnyH_take (i := 17) (oi := ?oi17x48) (v := ?v17x48) ?hi17x48 (by kernel_rfl) (by kernel_rfl) (by kernel_rfl) ?hq17x48 ?hy17x48 hHeld ?rest17x48
  case hi17x48 => ((try simp only [List.getElem?_toArray, List.getElem?_cons_succ, List.getElem?_cons_zero]); (try rfl))
  case hq17x48 => exact fun _ _ _ h => h
  case hy17x48 => exact Or.inl ⟨by rfl, by intro w hSw; clear hSw; go_simp; try with_reducible rfl⟩
  try simp only [Act.put, List.setIfInBounds_toArray, List.set_cons_zero, List.set_cons_succ]
  refine wpAnyH_take (i := 18) (oi := ?oi18x49) (v := ?v18x49) ?hi18x49 (by kernel_rfl) (by kernel_rfl) (by kernel_rfl) ?hq18x49 ?hy18x49 hHeld ?rest18x49
  case hi18x49 => ((try simp only [List.getElem?_toArray, List.getElem?_cons_succ, List.getElem?_cons_zero]); (try rfl))
  case hq18x49 => exact fun _ _ _ h => h
  case hy18x49 => exact Or.inl ⟨by rfl, by intro w hSw; have q := (CX.ry hSw) 3 _ rfl; clear hSw; simp only [Nat.zero_add] at q; go_simp; try with_reducible rfl⟩
  try simp only [Act.put, List.setIfInBounds_toArray, List.set_cons_zero, List.set_cons_succ]
  refine wpAnyH_take (i := 20) (oi := ?oi20x50) (v := ?v20x50) ?hi20x50 (by kernel_rfl) (by kernel_rfl) (by kernel_rfl) ?hq20x50 ?hy20x50 hHeld ?rest20x50
  case hi20x50 => ((try simp only [List.getElem?_toArray, List.getElem?_cons_succ, List.getElem?_cons_zero]); (try rfl))
  case hq20x50 => exact fun _ _ _ h => h
  case hy20x50 => exact Or.inl ⟨by rfl, by intro w hSw; clear hSw; go_simp; try with_reducible rfl⟩
  try simp only [Act.put, List.setIfInBounds_toArray, List.set_cons_zero, List.set_cons_succ]
  refine wpAnyH_take (i := 21) (oi := ?oi21x51) (v := ?v21x51) ?hi21x51 (by kernel_rfl) (by kernel_rfl) (by kernel_rfl) ?hq21x51 ?hy21x51 hHeld ?rest21x51
  case hi21x51 => ((try simp only [List.getElem?_toArray, List.getElem?_cons_succ, List.getElem?_cons_zero]); (try rfl))
  case hq21x51 => exact fun _ _ _ h => h
  case hy21x51 => exact Or.inl ⟨by rfl, by intro w hSw; have q := (CX.rx hSw) 4 _ rfl; clear hSw; simp only [Nat.zero_add] at q; go_simp; try with_reducible rfl⟩
  try simp only [Act.put, List.setIfInBounds_toArray, List.set_cons_zero, List.set_cons_succ]
  refine wpAnyH_take (i := 22) (oi := ?oi22x52) (v := ?v22x52) ?hi22x52 (by kernel_rfl) (by kernel_rfl) (by kernel_rfl) ?hq22x52 ?hy22x52 hHeld ?rest22x52
  case hi22x52 => ((try simp only [List.getElem?_toArray, List.getElem?_cons_succ, List.getElem?_cons_zero]); (try rfl))
  case hq22x52 => exact fun _ _ _ h => h
  case hy22x52 => exact Or.inl ⟨by rfl, by intro w hSw; clear hSw; go_simp; try with_reducible rfl⟩
  try simp only [Act.put, List.setIfInBounds_toArray, List.set_cons_zero, List.set_cons_succ]
  refine wpAnyH_take (i := 23) (oi := ?oi23x53) (v := ?v23x53) ?hi23x53 (by kernel_rfl) (by kernel_rfl) (by kernel_rfl) ?hq23x53 ?hy23x53 hHeld ?rest23x53
  case hi23x53 => ((try simp only [List.getElem?_toArray, List.getElem?_cons_succ, List.getElem?_cons_zero]); (try rfl))
  case hq23x53 => exact fun _ _ _ h => h
  case hy23x53 => exact Or.inl ⟨by rfl, by intro w hSw; have q := (CX.ry hSw) 4 _ rfl; clear hSw; simp only [Nat.zero_add] at q; go_simp; try with_reducible rfl⟩
  try simp only [Act.put, List.setIfInBounds_toArray, List.set_cons_zero, List.set_cons_succ]
  refine wpAnyH_take (i := 25) (oi := ?oi25x54) (v := ?v25x54) ?hi25x54 (by kernel_rfl) (by kernel_rfl) (by kernel_rfl) ?hq25x54 ?hy25x54 hHeld ?rest25x54
  case hi25x54 => ((try simp only [List.getElem?_toArray, List.getElem?_cons_succ, List.getElem?_cons_zero]); (try rfl))
  case hq25x54 => exact fun _ _ _ h => h
  case hy25x54 => exact Or.inl ⟨by rfl, by intro w hSw; clear hSw; go_simp; try with_reducible rfl⟩
  try simp only [Act.put, List.setIfInBounds_toArray, List.set_cons_zero, List.set_cons_succ]
  refine wpAnyH_take (i := 26) (oi := ?oi26x55) (v := ?v26x55) ?hi26x55 (by kernel_rfl) (by kernel_rfl) (by kernel_rfl) ?hq26x55 ?hy26x55 hHeld ?rest26x55
  case hi26x55 => ((try simp only [List.getElem?_toArray, List.getElem?_cons_succ, List.getElem?_cons_zero]); (try rfl))
  case hq26x55 => exact fun _ _ _ h => h
  case hy26x55 => exact Or.inl ⟨by rfl, by intro w hSw; have q := (CX.rx hSw) 5 _ rfl; clear hSw; simp only [Nat.zero_add] at q; go_simp; try with_reducible rfl⟩
  try simp only [Act.put, List.setIfInBounds_toArray, List.set_cons_zero, List.set_cons_succ]
  refine wpAnyH_take (i := 27) (oi := ?oi27x56) (v := ?v27x56) ?hi27x56 (by kernel_rfl) (by kernel_rfl) (by kernel_rfl) ?hq27x56 ?hy27x56 hHeld ?rest27x56
  case hi27x56 => ((try simp only [List.getElem?_toArray, List.getElem?_cons_succ, List.getElem?_cons_zero]); (try rfl))
  case hq27x56 => exact fun _ _ _ h => h
  case hy27x56 => exact Or.inl ⟨by rfl, by intro w hSw; clear hSw; go_simp; try with_reducible rfl⟩
  try simp only [Act.put, List.setIfInBounds_toArray, List.set_cons_zero, List.set_cons_succ]
  refine wpAnyH_take (i := 28) (oi := ?oi28x57) (v := ?v28x57) ?hi28x57 (by kernel_rfl) (by kernel_rfl) (by kernel_rfl) ?hq28x57 ?hy28x57 hHeld ?rest28x57
  case hi28x57 => ((try simp only [List.getElem?_toArray, List.getElem?_cons_succ, List.getElem?_cons_zero]); (try rfl))
  case hq28x57 => exact fun _ _ _ h => h
  case hy28x57 => exact Or.inl ⟨by rfl, by intro w hSw; have q := (CX.ry hSw) 5 _ rfl; clear hSw; simp only [Nat.zero_add] at q; go_simp; try with_reducible rfl⟩
  try simp only [Act.put, List.setIfInBounds_toArray, List.set_cons_zero, List.set_cons_succ]
  refine wpAnyH_take (i := 30) (oi := ?oi30x58) (v := ?v30x58) ?hi30x58 (by kernel_rfl) (by kernel_rfl) (by kernel_rfl) ?hq30x58 ?hy30x58 hHeld ?rest30x58
  case hi30x58 => ((try simp only [List.getElem?_toArray, List.getElem?_cons_succ, List.getElem?_cons_zero]); (try rfl))
  case hq30x58 => exact fun _ _ _ h => h
  case hy30x58 => exact Or.inl ⟨by rfl, by intro w hSw; clear hSw; go_simp; try with_reducible rfl⟩
  try simp only [Act.put, List.setIfInBounds_toArray, List.set_cons_zero, List.set_cons_succ]
  refine wpAnyH_take (i := 31) (oi := ?oi31x59) (v := ?v31x59) ?hi31x59 (by kernel_rfl) (by kernel_rfl) (by kernel_rfl) ?hq31x59 ?hy31x59 hHeld ?rest31x59
  case hi31x59 => ((try simp only [List.getElem?_toArray, List.getElem?_cons_succ, List.getElem?_cons_zero]); (try rfl))
  case hq31x59 => exact fun _ _ _ h => h
  case hy31x59 => exact Or.inl ⟨by rfl, by intro w hSw; have q := (CX.rx hSw) 6 _ rfl; clear hSw; simp only [Nat.zero_add] at q; go_simp; try with_reducible rfl⟩
  try simp only [Act.put, List.setIfInBounds_toArray, List.set_cons_zero, List.set_cons_succ]
  refine wpAnyH_take (i := 32) (oi := ?oi32x60) (v := ?v32x60) ?hi32x60 (by kernel_rfl) (by kernel_rfl) (by kernel_rfl) ?hq32x60 ?hy32x60 hHeld ?rest32x60
  case hi32x60 => ((try simp only [List.getElem?_toArray, List.getElem?_cons_succ, List.getElem?_cons_zero]); (try rfl))
  case hq32x60 => exact fun _ _ _ h => h
  case hy32x60 => exact Or.inl ⟨by rfl, by intro w hSw; clear hSw; go_simp; try with_reducible rfl⟩
  try simp only [Act.put, List.setIfInBounds_toArray, List.set_cons_zero, List.set_cons_succ]
  refine wpAnyH_take (i := 33) (oi := ?oi33x61) (v := ?v33x61) ?hi33x61 (by kernel_rfl) (by kernel_rfl) (by kernel_rfl) ?hq33x61 ?hy33x61 hHeld ?rest33x61
  case hi33x61 => ((try simp only [List.getElem?_toArray, List.getElem?_cons_succ, List.getElem?_cons_zero]); (try rfl))
  case hq33x61 => exact fun _ _ _ h => h
  case hy33x61 => exact Or.inl ⟨by rfl, by intro w hSw; have q := (CX.ry hSw) 6 _ rfl; clear hSw; simp only [Nat.zero_add] at q; go_simp; try with_reducible rfl⟩
  try simp only [Act.put, List.setIfInBounds_toArray, List.set_cons_zero, List.set_cons_succ]
  refine wpAnyH_take (i := 35) (oi := ?oi35x62) (v := ?v35x62) ?hi35x62 (by kernel_rfl) (by kernel_rfl) (by kernel_rfl) ?hq35x62 ?hy35x62 hHeld ?rest35x62
  case hi35x62 => ((try simp only [List.getElem?_toArray, List.getElem?_cons_succ, List.getElem?_cons_zero]); (try rfl))
  case hq35x62 => exact fun _ _ _ h => h
  case hy35x62 => exact Or.inl ⟨by rfl, by intro w hSw; clear hSw; go_simp; try with_reducible rfl⟩
  try simp only [Act.put, List.setIfInBounds_toArray, List.set_cons_zero, List.set_cons_succ]
  refine wpAnyH_take (i := 36) (oi := ?oi36x63) (v := ?v36x63) ?hi36x63 (by kernel_rfl) (by kernel_rfl) (by kernel_rfl) ?hq36x63 ?hy36x63 hHeld ?rest36x63
  case hi36x63 => ((try simp only [List.getElem?_toArray, List.getElem?_cons_succ, List.getElem?_cons_zero]); (try rfl))
  case hq36x63 => exact fun _ _ _ h => h
  case hy36x63 => exact Or.inl ⟨by rfl, by intro w hSw; have q := (CX.rx hSw) 7 _ rfl; clear hSw; simp only [Nat.zero_add] at q; go_simp; try with_reducible rfl⟩
  try simp only [Act.put, List.setIfInBounds_toArray, List.set_cons_zero, List.set_cons_succ]
  refine wpAnyH_take (i := 37) (oi := ?oi37x64) (v := ?v37x64) ?hi37x64 (by kernel_rfl) (by kernel_rfl) (by kernel_rfl) ?hq37x64 ?hy37x64 hHeld ?rest37x64
  case hi37x64 => ((try simp only [List.getElem?_toArray, List.getElem?_cons_succ, List.getElem?_cons_zero]); (try rfl))
  case hq37x64 => exact fun _ _ _ h => h
  case hy37x64 => exact Or.inl ⟨by rfl, by intro w hSw; clear hSw; go_simp; try with_reducible rfl⟩
  try simp only [Act.put, List.setIfInBounds_toArray, List.set_cons_zero, List.set_cons_succ]
  refine wpAnyH_take (i := 38) (oi := ?oi38x65) (v := ?v38x65) ?hi38x65 (by kernel_rfl) (by kernel_rfl) (by kernel_rfl) ?hq38x65 ?hy38x65 hHeld ?rest38x65
  case hi38x65 => ((try simp only [List.getElem?_toArray, List.getElem?_cons_succ, List.getElem?_cons_zero]); (try rfl))
  case hq38x65 => exact fun _ _ _ h => h
  case hy38x65 => exact Or.inl ⟨by rfl, by intro w hSw; clear hSw; go_simp; try with_reducible rfl⟩
  try simp only [Act.put, List.setIfInBounds_toArray, List.set_cons_zero, List.set_cons_succ]
  refine wpAnyH_take (i := 39) (oi := ?oi39x66) (v := ?v39x66) ?hi39x66 (by kernel_rfl) (by kernel_rfl) (by kernel_rfl) ?hq39x66 ?hy39x66 hHeld ?rest39x66
  case hi39x66 => ((try simp only [List.getElem?_toArray, List.getElem?_cons_succ, List.getElem?_cons_zero]); (try rfl))
  case hq39x66 => exact fun _ _ _ h => h
  case hy39x66 => exact Or.inl ⟨by rfl, by intro w hSw; have q := (CX.ry hSw) 7 _ rfl; clear hSw; simp only [Nat.zero_add] at q; go_simp; try with_reducible rfl⟩
  try simp only [Act.put, List.setIfInBounds_toArray, List.set_cons_zero, List.set_cons_succ]
  refine wpAnyH_take (i := 40) (oi := ?oi40x67) (v := ?v40x67) ?hi40x67 (by kernel_rfl) (by kernel_rfl) (by kernel_rfl) ?hq40x67 ?hy40x67 hHeld ?rest40x67
  case hi40x67 => ((try simp only [List.getElem?_toArray, List.getElem?_cons_succ, List.getElem?_cons_zero]); (try rfl))
  case hq40x67 => exact fun _ _ _ h => h
  case hy40x67 => exact Or.inl ⟨by rfl, by intro w hSw; clear hSw; go_simp; try with_reducible rfl⟩
  try simp only [Act.put, List.setIfInBounds_toArray, List.set_cons_zero, List.set_cons_succ]
  refine wpAnyH_ready (rs := [4]) (by kernel_rfl) (by simp) ?_
  refine AllReadyH.cons rfl (fun K' hK => ?_) AllReadyH.nil
  have H1 := Lib.hid hHeld
  clear hHeld
  go_simp
  refine (number_any _ _ _).mono ?_
  rintro e w9 ⟨rfl, rfl⟩
  refine hK.out _ _ H1.out (fun hHeld => ?_)
  clear hK H1
  try simp only [Act.put, List.setIfInBounds_toArray, List.set_cons_zero, List.set_cons_succ]
  refine wpAnyH_ready (rs := [9]) (by kernel_rfl) (by simp) ?_
  refine AllReadyH.cons rfl (fun K' hK => ?_) AllReadyH.nil
  have H1 := Lib.hid hHeld
  clear hHeld
  go_simp
  refine (text_any _ _ _).mono ?_
  rintro e w9 ⟨rfl, rfl⟩
  refine hK.out _ _ H1.out (fun hHeld => ?_)
  clear hK H1
  try simp only [Act.put, List.setIfInBounds_toArray, List.set_cons_zero, List.set_cons_succ]
  refine wpAnyH_ready (rs := [14]) (by kernel_rfl) (by simp) ?_
  refine AllReadyH.cons rfl (fun K' hK => ?_) AllReadyH.nil
  have H1 := Lib.hid hHeld
  clear hHeld
  go_simp
  refine (text_any _ _ _).mono ?_
  rintro e w9 ⟨rfl, rfl⟩
  refine hK.out _ _ H1.out (fun hHeld => ?_)
  clear hK H1
  try simp only [Act.put, List.setIfInBounds_toArray, List.set_cons_zero, List.set_cons_succ]
  refine wpAnyH_ready (rs := [19]) (by kernel_rfl) (by simp) ?_
  refine AllReadyH.cons rfl (fun K' hK => ?_) AllReadyH.nil
  have H1 := Lib.hid hHeld
  clear hHeld
  go_simp
  refine (number_any _ _ _).mono ?_
  rintro e w9 ⟨rfl, rfl⟩
  refine hK.out _ _ H1.out (fun hHeld => ?_)
  clear hK H1
  try simp only [Act.put, List.setIfInBounds_toArray, List.set_cons_zero, List.set_cons_succ]
  refine wpAnyH_ready (rs := [24]) (by kernel_rfl) (by simp) ?_
  refine AllReadyH.cons rfl (fun K' hK => ?_) AllReadyH.nil
  have H1 := Lib.hid hHeld
  clear hHeld
  go_simp
  refine (number_any _ _ _).mono ?_
  rintro e w9 ⟨rfl, rfl⟩
  refine hK.out _ _ H1.out (fun hHeld => ?_)
  clear hK H1
  try simp only [Act.put, List.setIfInBounds_toArray, List.set_cons_zero, List.set_cons_succ]
  refine wpAnyH_ready (rs := [29]) (by kernel_rfl) (by simp) ?_
  refine AllReadyH.cons rfl (fun K' hK => ?_) AllReadyH.nil
  have H1 := Lib.hid hHeld
  clear hHeld
  go_simp
  refine (number_any _ _ _).mono ?_
  rintro e w9 ⟨rfl, rfl⟩
  refine hK.out _ _ H1.out (fun hHeld => ?_)
  clear hK H1
  try simp only [Act.put, List.setIfInBounds_toArray, List.set_cons_zero, List.set_cons_succ]
  refine wpAnyH_ready (rs := [34]) (by kernel_rfl) (by simp) ?_
  refine AllReadyH.cons rfl (fun K' hK => ?_) AllReadyH.nil
  have H1 := Lib.hid hHeld
  clear hHeld
  go_simp
  refine (number_any _ _ _).mono ?_
  rintro e w9 ⟨rfl, rfl⟩
  refine hK.out _ _ H1.out (fun hHeld => ?_)
  clear hK H1
  try simp only [Act.put, List.setIfInBounds_toArray, List.set_cons_zero, List.set_cons_succ]
  refine wpAnyH_ready (rs := [41]) (by kernel_rfl) (by simp) ?_
  refine AllReadyH.cons rfl (fun K' hK => ?_) AllReadyH.nil
  have H1 := Lib.hid hHeld
  clear hHeld
  go_simp
  refine (number_any _ _ _).mono ?_
  rintro e w9 ⟨rfl, rfl⟩
  refine hK.out _ _ H1.out (fun hHeld => ?_)
  clear hK H1
  try simp only [Act.put, List.setIfInBounds_toArray, List.set_cons_zero, List.set_cons_succ]
  refine wpAnyH_ready (rs := [42]) (by kernel_rfl) (by simp) ?_
  refine AllReadyH.cons rfl (fun K' hK => ?_) AllReadyH.nil
  have H1 := Lib.hid hHeld
  clear hHeld
  go_simp
  refine hK.out _ _ (H1.out.alloc _) (fun hHeld => ?_)
  clear hK H1
  try simp only [Act.put, List.setIfInBounds_toArray, List.set_cons_zero, List.set_cons_succ]
  refine wpAnyH_take (i := 43) (oi := ?oi43x68) (v := ?v43x68) ?hi43x68 (by kernel_rfl) (by kernel_rfl) (by kernel_rfl) ?hq43x68 ?hy43x68 hHeld ?rest43x68
  case hi43x68 => ((try simp only [List.getElem?_toArray, List.getElem?_cons_succ, List.getElem?_cons_zero]); (try rfl))
  case hq43x68 => exact fun _ _ _ h => h
  case hy43x68 => exact Or.inl ⟨by rfl, by intro w hSw; clear hSw; go_simp; try with_reducible rfl⟩
  try simp only [Act.put, List.setIfInBounds_toArray, List.set_cons_zero, List.set_cons_succ]
  refine wpAnyH_done (by kernel_rfl) ?_ _
  have B0 := Lib.hid (BL.out _ hHeld)
  have CL := Lib.hid (CC.out _ _ (row3 w (.cells (obsC ⟨n0, s0, t0, r0, d0, g0, m0, b0⟩).toArray 33) (.cells (obsC ⟨n1, s1, t1, r1, d1, g1, m1, b1⟩).toArray 33) (cmpC ⟨n0, s0, t0, r0, d0, g0, m0, b0⟩ ⟨n1, s1, t1, r1, d1, g1, m1, b1⟩) 3))
  clear hHeld BL CC
  generalize (((w.alloc (.cells (obsC ⟨n0, s0, t0, r0, d0, g0, m0, b0⟩).toArray 33)).alloc (.cells (obsC ⟨n1, s1, t1, r1, d1, g1, m1, b1⟩).toArray 33)).alloc (.cells (cmpC ⟨n0, s0, t0, r0, d0, g0, m0, b0⟩ ⟨n1, s1, t1, r1, d1, g1, m1, b1⟩).toArray 3)).drew = W9 at *
  have Z8 := Lib.hid z8
  clear z8
  go_wp2_with fail
  go_loop [6] (fun i => ∃ k : Nat, k ≤ 8 ∧ i = .int .i64 k ∧ Hid (∀ j (h : j < cl.length), j < k → cl[j] = 0)) (fun i => 8 - (intOf i).toNat)
  case atStart => exact ⟨0, Nat.zero_le _, rfl, Lib.hid (fun j _ h => by omega)⟩
  case round =>
    obtain ⟨k, hk, rfl, D⟩ := hrel
    by_cases hlt : k < 8
    · have hkl : k < cl.length := by rw [Z8.out]; exact hlt
      have c0 := CL.out k hkl
      have i1 : (k : Int) < 8 := by omega
      by_cases hz : cl[k] = 0
      · have DK := Lib.hid (show ∀ j (h : j < cl.length), j < k + 1 → cl[j] = 0 from fun j h hj => by
          by_cases e : j = k
          · subst e; exact hz
          · exact D.out j h (by omega))
        rw [hz] at c0
        clear D E8 E0 hz
        go_wp2_with fail
        go_round
        case rel => exact ⟨k + 1, by omega, by go_num, DK⟩
        case measure => simp [intOf]; omega
      · have E := Lib.hid (E8.out k hkl D.out hz)
        generalize cl[k]'hkl = v at *
        have hz2 : (v != 0) = true := by rw [bne, beq_eq_false_iff_ne.2 hz]; rfl
        clear D E8 E0
        go_wp2_with fail
        go_ret
        exact ⟨by rw [E.out]; rfl, B0.out⟩
    · obtain rfl : k = 8 := by omega
      have E := Lib.hid (E0.out (fun i hi => D.out i hi (by have := Z8.out; omega)))
      clear E8 E0 D
      go_wp2_with fail
      go_ret
      exact ⟨by rw [E.out]; rfl, B0.out⟩
end Ow
end Go.Proofs.YtaghilgfldaaiaaGreatDoor
/-
  Rows of cells that a walk writes; all but one block is as it was.
-/
namespace Go.Proofs.YtaghilgfldaaiaaGreatDoor
namespace Vw
open Go.RowKit Lw

theorem set_size (b i : Nat) (v : Value) (w : World) : (w.setCell ⟨b, i, none⟩ v).heap.size = w.heap.size := by
  unfold World.setCell
  split <;> simp
/-- A row of cells that may be written. -/
structure Rw (w : World) (b : Nat) (vs : List Value) : Prop where
  row : w.rangeAt b 0 vs
  th : w.there b 0 vs.length
  lt : b < w.heap.size
theorem Rw.cell {w : World} {b : Nat} {vs : List Value} (h : Rw w b vs) {j : Nat} {v : Value} (hj : vs[j]? = some v) : w.cell? ⟨b, j, none⟩ = some v := by
  have := h.row j v hj
  rwa [Nat.zero_add] at this
theorem Rw.free {w : World} {b : Nat} {vs : List Value} (h : Rw w b vs) {j : Nat} (hj : j < vs.length) : w.frozen? ⟨b, j, none⟩ = false := by
  have := (h.th j hj).2
  rwa [Nat.zero_add] at this
theorem Rw.set {w : World} {b : Nat} {vs : List Value} (h : Rw w b vs) (i : Nat) (v : Value) (hi : i < vs.length) : Rw (w.setCell ⟨b, i, none⟩ v) b (vs.set i v) := by
  have out := World.cell?_setCells_out b [v] i w
  have inn := World.cell?_setCells_in b [v] i w (fun j hj => by
    have hj : j < 1 := hj
    have := (h.th (i + j) (by omega)).1
    rwa [Nat.zero_add] at this)
  have ew : w.setCells b i [v] = w.setCell ⟨b, i, none⟩ v := rfl
  have fz : ∀ p, (w.setCell ⟨b, i, none⟩ v).frozen? p = w.frozen? p := fun p => by rw [← ew, World.frozen?_setCells]
  rw [ew] at out inn
  refine ⟨?_, ?_, by rw [set_size]; exact h.lt⟩
  · intro j x hx
    rw [Nat.zero_add]
    by_cases hj : j = i
    · subst hj
      rw [List.getElem?_set_self hi] at hx
      have := inn 0 (by show 0 < 1; omega)
      rw [Nat.add_zero] at this
      rw [this]; exact hx
    · rw [List.getElem?_set_ne (fun h => hj h.symm)] at hx
      rw [out _ (fun _ _ => by show j < i ∨ i + 1 ≤ j; omega)]
      exact h.cell hx
  · intro j hj
    rw [List.length_set] at hj
    refine ⟨?_, by rw [fz]; exact (h.th j hj).2⟩
    rw [Nat.zero_add]
    by_cases hj2 : j = i
    · subst hj2
      have := inn 0 (by show 0 < 1; omega)
      rw [Nat.add_zero] at this
      rw [this]; rfl
    · rw [out _ (fun _ _ => by show j < i ∨ i + 1 ≤ j; omega)]
      have := (h.th j hj).1
      rwa [Nat.zero_add] at this
theorem Rw.apart {w : World} {b c : Nat} {vs : List Value} (h : Rw w b vs) (hc : b ≠ c) (i : Nat) (v : Value) : Rw (w.setCell ⟨c, i, none⟩ v) b vs := by
  have out := World.cell?_setCells_out c [v] i w
  have ew : w.setCells c i [v] = w.setCell ⟨c, i, none⟩ v := rfl
  have fz : ∀ p, (w.setCell ⟨c, i, none⟩ v).frozen? p = w.frozen? p := fun p => by rw [← ew, World.frozen?_setCells]
  rw [ew] at out
  refine ⟨fun j x hx => ?_, fun j hj => ?_, by rw [set_size]; exact h.lt⟩
  · rw [out _ (fun e => absurd e hc)]
    exact h.row j x hx
  · rw [fz, out _ (fun e => absurd e hc)]
    exact h.th j hj
theorem Rw.new (w : World) (vs : List Value) (t : TypeId) : Rw (w.alloc (.cells vs.toArray t)) w.heap.size vs :=
  ⟨rangeAt_new w vs t, there_new w vs.toArray t vs.length (by simp), by simp⟩
/-- All but one block is as it was. -/
structure Only (b : Nat) (w w' : World) : Prop where
  size : w.heap.size ≤ w'.heap.size
  block : ∀ k, k < w.heap.size → k ≠ b → w'.heap[k]? = w.heap[k]?
  below : Below b w w'
theorem Only.refl (b : Nat) (w : World) : Only b w w := ⟨Nat.le_refl _, fun _ _ _ => rfl, Below.refl b w⟩
theorem Only.trans {b : Nat} {u v w : World} (h : Only b u v) (g : Only b v w) : Only b u w := ⟨Nat.le_trans h.size g.size, fun k hk hb => (g.block k (Nat.lt_of_lt_of_le hk h.size) hb).trans (h.block k hk hb), h.below.trans g.below⟩
theorem Only.of {b : Nat} {w w' : World} (hb : b ≤ w.heap.size) (h : Below w.heap.size w w') : Only b w w' := ⟨h.size, fun k hk _ => h.block k hk, h.mono hb⟩
theorem Only.set (b i : Nat) (v : Value) (w : World) : Only b w (w.setCell ⟨b, i, none⟩ v) := ⟨by rw [set_size]; exact Nat.le_refl _, fun k _ hb => by
  show (w.heap.modify b _)[k]? = _
  rw [Array.getElem?_modify, if_neg (fun e => hb e.symm)], (Below.refl b w).setCell (p := ⟨b, i, none⟩) (Nat.le_refl _) v⟩
theorem Rw.only {w w' : World} {b c : Nat} {vs : List Value} (h : Rw w b vs) (o : Only c w w') (hb : b ≠ c) : Rw w' b vs := by
  have e : w'.heap[b]? = w.heap[b]? := o.block b h.lt hb
  refine ⟨fun j x hx => ?_, fun j hj => ?_, Nat.lt_of_lt_of_le h.lt o.size⟩
  · have := h.row j x hx
    unfold World.cell? at this ⊢
    rw [e]; exact this
  · have := h.th j hj
    refine ⟨?_, ?_⟩
    · have := this.1
      unfold World.cell? at this ⊢
      rw [e]; exact this
    · have := this.2
      unfold World.frozen? at this ⊢
      rw [e]; exact this
theorem Rw.call {w w' : World} {b : Nat} {vs : List Value} (h : Rw w b vs) (hb : Below w.heap.size w w') : Rw w' b vs := by
  have o : Only w.heap.size w w' := Only.of (Nat.le_refl _) hb
  exact h.only o (Nat.ne_of_lt h.lt)
theorem sets_size2 (b o : Nat) (cs : List Value) (w : World) : (w.setCells b o cs).heap.size = w.heap.size := by
  induction cs generalizing w o with
  | nil => rfl
  | cons v r ih => rw [World.setCells, ih, set_size]
theorem Rw.sets {w : World} {b : Nat} {vs : List Value} (us : List Value) (h : Rw w b vs) (hl : us.length = vs.length) : Rw (w.setCells b 0 us) b us := by
  refine ⟨World.rangeAt_setCells_same w b 0 us (fun j hj => (h.th j (by omega))), ?_, ?_⟩
  · have := World.there_setCells h.th b 0 us
    rw [hl]; exact this
  · rw [sets_size2]; exact h.lt
theorem Rw.sets_apart {w : World} {b c : Nat} {vs : List Value} (us : List Value) (h : Rw w b vs) (hc : b ≠ c) (o : Nat) : Rw (w.setCells c o us) b vs := by
  induction us generalizing w o with
  | nil => exact h
  | cons v r ih => rw [World.setCells]; exact ih (h.apart hc o v) (o + 1)
end Vw
end Go.Proofs.YtaghilgfldaaiaaGreatDoor
/-
  The walks of Twins and better of the reference.
-/
namespace Go.Proofs.YtaghilgfldaaiaaGreatDoor
namespace Vw
open Go.RowKit Lw Go.Proofs.YtaghilgfldaaiaaGreatDoor.Ap Go.Proofs.YtaghilgfldaaiaaGreatDoor.Vp Go.Proofs.YtaghilgfldaaiaaGreatDoor.Op Go.Proofs.YtaghilgfldaaiaaGreatDoor.Ow Go.Proofs.YtaghilgfldaaiaaGreatDoor.Mp Go.Proofs.YtaghilgfldaaiaaGreatDoor.Mw Go.Proofs.YtaghilgfldaaiaaGreatDoor.At

theorem bs_ne {a b : ByteArray} (h : a ≠ b) : (a.toList == b.toList) = false := beq_eq_false_iff_ne.2 (fun e => h (by rw [ByteArray.toList_eq, ByteArray.toList_eq] at e; exact toL_inj e))
theorem bs_eq {a b : ByteArray} (h : a = b) : (a.toList == b.toList) = true := by rw [h]; exact beq_self_eq_true _
/-- Two boxes. -/
theorem boxes2 (w : World) (a b : Ob) : ∃ v, (w.alloc (.cells (obsC a).toArray 33)).alloc (.cells (obsC b).toArray 33) = v ∧ Rw v w.heap.size (obsC a) ∧ Rw v (w.heap.size + 1) (obsC b) ∧ Below w.heap.size w v := by
  have a1 := (Below.refl w.heap.size w).alloc (Nat.le_refl _) (.cells (obsC a).toArray 33)
  have r1 := Rw.new w (obsC a) 33
  have e1 : (w.alloc (.cells (obsC a).toArray 33)).heap.size = w.heap.size + 1 := by simp
  refine ⟨_, rfl, ?_⟩
  generalize w.alloc (.cells (obsC a).toArray 33) = v1 at *
  have a2 := (Below.refl v1.heap.size v1).alloc (Nat.le_refl _) (.cells (obsC b).toArray 33)
  have r2 := Rw.new v1 (obsC b) 33
  rw [e1] at r2
  exact ⟨r1.call a2, r2, below_then a1 a2⟩
set_option maxRecDepth 100000 in
set_option maxHeartbeats 4000000 in
theorem twins_any (a b : Ob) (w : World) : Calls Tryz.prog 26 #[obsV a, obsV b] w fun e w' => e = .returned (.bool (decide (kyOf a = kyOf b))) ∧ Below w.heap.size w w' := by
  have K : Hid (a.name = b.name → a.site = b.site → a.t = b.t → decide (kyOf a = kyOf b) = true) := Lib.hid (fun h1 h2 h3 => decide_eq_true (by unfold kyOf; rw [h1, h2, h3]))
  have N1 : Hid (a.name ≠ b.name → decide (kyOf a = kyOf b) = false) := Lib.hid (fun h => decide_eq_false (fun e => h (congrArg Ky.name e)))
  have N2 : Hid (a.site ≠ b.site → decide (kyOf a = kyOf b) = false) := Lib.hid (fun h => decide_eq_false (fun e => h (congrArg Ky.site e)))
  have N3 : Hid (a.t ≠ b.t → decide (kyOf a = kyOf b) = false) := Lib.hid (fun h => decide_eq_false (fun e => h (congrArg Ky.t e)))
  obtain ⟨v, hv, ra, rb, hb⟩ := boxes2 w a b
  have HV := Lib.hid hv
  have RA := Lib.hid ra
  have RB := Lib.hid rb
  have HB := Lib.hid hb
  clear hv ra rb hb
  generalize decide (kyOf a = kyOf b) = D at *
  have a0 := RA.out.cell (j := 0) (v := _) rfl
  have a1 := RA.out.cell (j := 1) (v := _) rfl
  have a2 := RA.out.cell (j := 2) (v := _) rfl
  have b0 := RB.out.cell (j := 0) (v := _) rfl
  have b1 := RB.out.cell (j := 1) (v := _) rfl
  have b2 := RB.out.cell (j := 2) (v := _) rfl
  by_cases h1 : a.name = b.name
  · have e1 := bs_eq h1
    by_cases h2 : a.site = b.site
    · have e2 := bs_eq h2
      by_cases h3 : a.t = b.t
      · obtain rfl := K.out h1 h2 h3
        have e3 : (a.t == b.t) = true := by rw [h3]; exact beq_self_eq_true _
        clear K N1 N2 N3 h1 h2 h3
        go_enter Tryz.func26, Tryz.ntmps26
        go_upto_region 1 with fail
        rw [show (w.alloc (.cells #[.string a.name, .string a.site, .int .i64 a.t, .int .i64 a.ra, .int .i64 a.dec, .int .i64 a.sg, .int .i64 a.mag, .int .u8 a.band] 33)).alloc (.cells #[.string b.name, .string b.site, .int .i64 b.t, .int .i64 b.ra, .int .i64 b.dec, .int .i64 b.sg, .int .i64 b.mag, .int .u8 b.band] 33) = v from HV.out]
        go_wp2_with fail
        go_ret
        exact ⟨rfl, HB.out⟩
      · obtain rfl := N3.out h3
        have e3 : (a.t == b.t) = false := beq_eq_false_iff_ne.2 h3
        clear K N1 N2 N3 h1 h2
        go_enter Tryz.func26, Tryz.ntmps26
        go_upto_region 1 with fail
        rw [show (w.alloc (.cells #[.string a.name, .string a.site, .int .i64 a.t, .int .i64 a.ra, .int .i64 a.dec, .int .i64 a.sg, .int .i64 a.mag, .int .u8 a.band] 33)).alloc (.cells #[.string b.name, .string b.site, .int .i64 b.t, .int .i64 b.ra, .int .i64 b.dec, .int .i64 b.sg, .int .i64 b.mag, .int .u8 b.band] 33) = v from HV.out]
        go_wp2_with fail
        go_ret
        exact ⟨rfl, HB.out⟩
    · have e2 := bs_ne h2
      obtain rfl := N2.out h2
      clear K N1 N2 N3 h1 h2
      go_enter Tryz.func26, Tryz.ntmps26
      go_upto_region 1 with fail
      rw [show (w.alloc (.cells #[.string a.name, .string a.site, .int .i64 a.t, .int .i64 a.ra, .int .i64 a.dec, .int .i64 a.sg, .int .i64 a.mag, .int .u8 a.band] 33)).alloc (.cells #[.string b.name, .string b.site, .int .i64 b.t, .int .i64 b.ra, .int .i64 b.dec, .int .i64 b.sg, .int .i64 b.mag, .int .u8 b.band] 33) = v from HV.out]
      go_wp2_with fail
      go_ret
      exact ⟨rfl, HB.out⟩
  · have e1 := bs_ne h1
    obtain rfl := N1.out h1
    clear K N1 N2 N3 h1
    go_enter Tryz.func26, Tryz.ntmps26
    go_upto_region 1 with fail
    rw [show (w.alloc (.cells #[.string a.name, .string a.site, .int .i64 a.t, .int .i64 a.ra, .int .i64 a.dec, .int .i64 a.sg, .int .i64 a.mag, .int .u8 a.band] 33)).alloc (.cells #[.string b.name, .string b.site, .int .i64 b.t, .int .i64 b.ra, .int .i64 b.dec, .int .i64 b.sg, .int .i64 b.mag, .int .u8 b.band] 33) = v from HV.out]
    go_wp2_with fail
    go_ret
    exact ⟨rfl, HB.out⟩
set_option maxRecDepth 100000 in
set_option maxHeartbeats 4000000 in
theorem better_any (a b : Ob) (w : World) (ha : 0 ≤ a.band ∧ a.band ≤ 255) (hb : 0 ≤ b.band ∧ b.band ≤ 255) : Calls Tryz.prog 33 #[obsV a, obsV b] w fun e w' => e = .returned (.bool (decide (betP a b))) ∧ Below w.heap.size w w' := by
  have C := Lib.hid (fun w' => rcompare_any a b w' ha hb)
  have Y1 : Hid (a.sg < b.sg → decide (betP a b) = true) := Lib.hid (fun h => decide_eq_true (Or.inl h))
  have N1 : Hid (¬ a.sg < b.sg → ¬ a.sg = b.sg → decide (betP a b) = false) := Lib.hid (fun h g => decide_eq_false (fun e => by unfold betP at e; omega))
  have E2 : Hid (¬ a.sg < b.sg → a.sg = b.sg → decide (betP a b) = decide (cmpO a b < 0)) := Lib.hid (fun h g => by
    by_cases k : cmpO a b < 0
    · rw [decide_eq_true k]; exact decide_eq_true (Or.inr ⟨g, k⟩)
    · rw [decide_eq_false k]; exact decide_eq_false (fun e => by unfold betP at e; omega))
  obtain ⟨v, hv, ra, rb, hb⟩ := boxes2 w a b
  have HV := Lib.hid hv
  have RA := Lib.hid ra
  have RB := Lib.hid rb
  have HB := Lib.hid hb
  clear hv ra rb hb
  generalize decide (betP a b) = D at *
  generalize cmpO a b = K at *
  by_cases h1 : a.sg < b.sg
  · obtain rfl := Y1.out h1
    have a5 := RA.out.cell (j := 5) (v := _) rfl
    have b5 := RB.out.cell (j := 5) (v := _) rfl
    clear Y1 N1 E2 C
    go_enter Tryz.func33, Tryz.ntmps33
    go_upto_region 1 with fail
    rw [show (w.alloc (.cells #[.string a.name, .string a.site, .int .i64 a.t, .int .i64 a.ra, .int .i64 a.dec, .int .i64 a.sg, .int .i64 a.mag, .int .u8 a.band] 33)).alloc (.cells #[.string b.name, .string b.site, .int .i64 b.t, .int .i64 b.ra, .int .i64 b.dec, .int .i64 b.sg, .int .i64 b.mag, .int .u8 b.band] 33) = v from HV.out]
    go_wp2_with fail
    go_ret
    exact ⟨rfl, HB.out⟩
  · by_cases h2 : a.sg = b.sg
    · have E := Lib.hid (E2.out h1 h2)
      have a0 := RA.out.cell (j := 0) (v := _) rfl
      have a1 := RA.out.cell (j := 1) (v := _) rfl
      have a2 := RA.out.cell (j := 2) (v := _) rfl
      have a3 := RA.out.cell (j := 3) (v := _) rfl
      have a4 := RA.out.cell (j := 4) (v := _) rfl
      have a5 := RA.out.cell (j := 5) (v := _) rfl
      have a6 := RA.out.cell (j := 6) (v := _) rfl
      have a7 := RA.out.cell (j := 7) (v := _) rfl
      have b0 := RB.out.cell (j := 0) (v := _) rfl
      have b1 := RB.out.cell (j := 1) (v := _) rfl
      have b2 := RB.out.cell (j := 2) (v := _) rfl
      have b3 := RB.out.cell (j := 3) (v := _) rfl
      have b4 := RB.out.cell (j := 4) (v := _) rfl
      have b5 := RB.out.cell (j := 5) (v := _) rfl
      have b6 := RB.out.cell (j := 6) (v := _) rfl
      have b7 := RB.out.cell (j := 7) (v := _) rfl
      have e2 : (a.sg == b.sg) = true := by rw [h2]; exact beq_self_eq_true _
      have e3 : decide (a.sg < b.sg) = false := decide_eq_false h1
      clear Y1 N1 E2 h2
      go_enter Tryz.func33, Tryz.ntmps33
      go_upto_region 1 with fail
      rw [show (w.alloc (.cells #[.string a.name, .string a.site, .int .i64 a.t, .int .i64 a.ra, .int .i64 a.dec, .int .i64 a.sg, .int .i64 a.mag, .int .u8 a.band] 33)).alloc (.cells #[.string b.name, .string b.site, .int .i64 b.t, .int .i64 b.ra, .int .i64 b.dec, .int .i64 b.sg, .int .i64 b.mag, .int .u8 b.band] 33) = v from HV.out]
      go_wp2_with fail
      refine (C.out _).mono ?_
      rintro e w2 ⟨rfl, hb2⟩
      have B2 := Lib.hid (below_then HB.out hb2)
      clear hb2 C a0 a1 a2 a3 a4 a5 a6 a7 b0 b1 b2 b3 b4 b5 b6 b7
      obtain rfl := E.out
      go_wp2_with fail
      go_ret
      exact ⟨rfl, B2.out⟩
    · obtain rfl := N1.out h1 h2
      have a5 := RA.out.cell (j := 5) (v := _) rfl
      have b5 := RB.out.cell (j := 5) (v := _) rfl
      have e2 : (a.sg == b.sg) = false := beq_eq_false_iff_ne.2 h2
      have e3 : decide (a.sg < b.sg) = false := decide_eq_false h1
      clear Y1 N1 E2 C
      go_enter Tryz.func33, Tryz.ntmps33
      go_upto_region 1 with fail
      rw [show (w.alloc (.cells #[.string a.name, .string a.site, .int .i64 a.t, .int .i64 a.ra, .int .i64 a.dec, .int .i64 a.sg, .int .i64 a.mag, .int .u8 a.band] 33)).alloc (.cells #[.string b.name, .string b.site, .int .i64 b.t, .int .i64 b.ra, .int .i64 b.dec, .int .i64 b.sg, .int .i64 b.mag, .int .u8 b.band] 33) = v from HV.out]
      go_wp2_with fail
      go_ret
      exact ⟨rfl, HB.out⟩
end Vw
end Go.Proofs.YtaghilgfldaaiaaGreatDoor
/-
  Texts of degrees: DegText of package angle.
-/
namespace Go.Proofs.YtaghilgfldaaiaaGreatDoor
namespace Gt
open Go.RowKit Lw Gp

theorem size_mk' (l : List UInt8) : (⟨l.toArray⟩ : ByteArray).size = l.length := by simp [ByteArray.size]
/-- What a drawn region of calls that make texts needs of memory. -/
structure TS (w w' : World) : Prop where
  tab : Tab w'
  below : Below w.heap.size w w'
theorem TS.call {w a b : World} (h : TS w a) (hb : Below a.heap.size a b) : TS w b := ⟨h.tab.below hb, below_then h.below hb⟩
theorem TS.drew {w a : World} (h : TS w a) : TS w a.drew := h.call ((Below.refl _ a).drew)
theorem TS.drewN {w a : World} (h : TS w a) (n : Nat) : TS w (a.drewN n) := h.call (drewN_below2 (Below.refl _ a) n)

def degN (m d : Nat) : Nat := if 8 < d then rndN (m * 5) 18 else rndN m (3600000000 / 10 ^ d)
/-- The digits of degrees. -/
def degB (n d : Nat) : List UInt8 := Lib.itoa ((n / 10 ^ d : Nat) : Int) ++ 46 :: padL ((n % 10 ^ d : Nat) : Int) d
/-- The text of degrees. -/
def degL (a : Int) (d : Nat) : List UInt8 := if a < 0 ∧ 0 < degN a.natAbs d then 45 :: degB (degN a.natAbs d) d else degB (degN a.natAbs d) d
theorem degN_le (m d : Nat) (hm : m ≤ 1296000000000) (hd : d ≤ 9) : degN m d ≤ 1296000000001 := by
  unfold degN
  split
  · have h := rndN_eq (m * 5) 18
    unfold rndI at h
    split at h <;> omega
  · have hp : ∀ d : Nat, d ≤ 9 → ¬ 8 < d → 1 ≤ 3600000000 / 10 ^ d := by decide
    have := rndN_le m (3600000000 / 10 ^ d) (hp d hd (by assumption))
    omega

set_option maxRecDepth 100000 in
set_option maxHeartbeats 8000000 in
theorem degtext_any (a : Int) (d : Nat) (w : World) (hT : Tab w) (h0 : -1296000000000 ≤ a) (h1 : a ≤ 1296000000000) (hd1 : 1 ≤ d) (hd : d ≤ 9) :
    Calls Tryz.prog 70 #[.int .i64 a, .int .i64 d] w fun e w' => e = .returned (.tuple #[.string ⟨(degL a d).toArray⟩, .int .i64 0]) ∧ Below w.heap.size w w' := by
  obtain ⟨m, em⟩ : ∃ m : Nat, a.natAbs = m := ⟨_, rfl⟩
  have mx : max a (-a) = (m : Int) := by omega
  have nb := degN_le m d (by omega) hd
  have mb : m ≤ 1296000000000 := by omega
  have K1 : Hid (a < 0 → 0 < degN m d → degL a d = 45 :: degB (degN m d) d) := Lib.hid fun g1 g2 => by unfold degL; rw [em, if_pos ⟨g1, g2⟩]
  have K2 : Hid (¬ (a < 0 ∧ 0 < degN m d) → degL a d = degB (degN m d) d) := Lib.hid fun g => by unfold degL; rw [em, if_neg g]
  have hp9 : ∀ d : Nat, d ≤ 9 → 1 ≤ 10 ^ d ∧ 10 ^ d ≤ 1000000000 := by decide
  obtain ⟨p1, p2⟩ := hp9 d hd
  have NT : ∀ w : World, Calls Tryz.prog 124 #[.int .i64 d] w fun e w' => e = .returned (.int .i64 ((10 ^ d : Nat) : Int)) ∧ w = w' := fun w => ten_any d w (by omega)
  have R8 : d ≤ 8 → ∃ u : Nat, u ≤ 3600000000 ∧ (3600000000 : Int).tdiv ((10 ^ d : Nat) : Int) = (u : Int) ∧ (∀ w : World, Calls Tryz.prog 125 #[.int .i64 (m : Int), .int .i64 (u : Int)] w fun e w' => e = .returned (.int .i64 (degN m d : Int)) ∧ ∃ k, w' = w.drewN k) := fun h8 => by
    have hp : ∀ d : Nat, d ≤ 8 → 1 ≤ 3600000000 / 10 ^ d ∧ 3600000000 / 10 ^ d ≤ 3600000000 := by decide
    obtain ⟨u1, u2⟩ := hp d h8
    refine ⟨3600000000 / 10 ^ d, u2, rfl, fun w => ?_⟩
    have e : degN m d = rndN m (3600000000 / 10 ^ d) := if_neg (by omega)
    rw [e, rndN_eq]
    exact round_any m _ w (by omega) (by omega) (by omega)
  have R9 : d = 9 → ∀ w : World, Calls Tryz.prog 125 #[.int .i64 ((m : Int) * 5), .int .i64 18] w fun e w' => e = .returned (.int .i64 (degN m d : Int)) ∧ ∃ k, w' = w.drewN k := fun h9 w => by
    have e : degN m d = rndN (m * 5) 18 := if_pos (by omega)
    rw [e, rndN_eq, show (m : Int) * 5 = ((m * 5 : Nat) : Int) by simp]
    exact round_any (m * 5) 18 w (by omega) (by omega) (by omega)
  have hB0 : ∀ n, degB n d = Lib.itoa ((n / 10 ^ d : Nat) : Int) ++ 46 :: padL ((n % 10 ^ d : Nat) : Int) d := fun _ => rfl
  generalize degN m d = n at *
  have hB := Lib.hid (hB0 n)
  clear hB0 hp9
  generalize 10 ^ d = p at *
  have q1 : n / p ≤ n := Nat.div_le_self _ _
  have q2 : n % p ≤ n := Nat.mod_le _ _
  have t1 : (n : Int).tdiv (p : Int) = ((n / p : Nat) : Int) := rfl
  have t2 : (n : Int).tmod (p : Int) = ((n % p : Nat) : Int) := rfl
  generalize n / p = s at *
  generalize n % p = r at *
  have hTS : TS w w := ⟨hT, Below.refl _ _⟩
  have FI : ∀ w', TS w w' → Calls Tryz.prog 71 #[.int .i64 (s : Int), .int .i64 10] w' fun e w'' => e = .returned (.string ⟨(Lib.itoa (s : Int)).toArray⟩) ∧ Below w'.heap.size w' w'' := fun w' h =>
    (Tryz.strconv_FormatInt_10 (s : Int) (by omega) (by omega) w' h.tab).mono fun _ _ ⟨x, k, os, y⟩ => ⟨x, by rw [y]; exact below_grow w' k os⟩
  have PD : ∀ w', TS w w' → Calls Tryz.prog 126 #[.int .i64 (r : Int), .int .i64 d] w' fun e w'' => e = .returned (.string ⟨(padL (r : Int) d).toArray⟩) ∧ Below w'.heap.size w' w'' := fun w' h => pad_any r d w' h.tab (by omega) (by omega) (by omega)
  have lI := Lib.itoa_length_le (s : Int) (by omega) (by omega)
  have lP := pad_len (r : Int) d (by omega) (by omega) (by omega)
  generalize Lib.itoa (s : Int) = L at *
  generalize padL (r : Int) d = q at *
  have sa := str_app L [46]
  have sb : ((⟨(L ++ [46]).toArray⟩ : ByteArray) ++ ⟨q.toArray⟩) = ⟨(L ++ 46 :: q).toArray⟩ := by rw [str_app, List.append_assoc]; rfl
  have sc : ((⟨#[45]⟩ : ByteArray) ++ ⟨(L ++ 46 :: q).toArray⟩) = ⟨(45 :: (L ++ 46 :: q)).toArray⟩ := str_app [45] (L ++ 46 :: q)
  have p0 : (p : Int) ≠ 0 := by omega
  have p0n : ¬ p = 0 := by omega
  have y1 : ¬ 9223372036854775807 < L.length + 1 := by omega
  have y2 : ¬ 9223372036854775807 ≤ L.length := by omega
  have y3 : ¬ 9223372036854775807 < L.length + 1 + q.length := by omega
  have z1 : (⟨L.toArray⟩ : ByteArray).size + (⟨#[46]⟩ : ByteArray).size ≤ 9223372036854775807 := by rw [size_mk' L]; show L.length + 1 ≤ _; omega
  have z2 : (⟨(L ++ [46]).toArray⟩ : ByteArray).size + (⟨q.toArray⟩ : ByteArray).size ≤ 9223372036854775807 := by rw [size_mk' (L ++ [46]), size_mk' q, List.length_append]; simp only [List.length_cons, List.length_nil]; omega
  have a2 : ∀ w' : World, (Op.stringOp .add (⟨L.toArray⟩ : ByteArray) ⟨#[46]⟩).run Tryz.prog w' = .ok (.string ⟨(L ++ [46]).toArray⟩) w' := fun w' => by rw [run_string_add_sum (P := Tryz.prog) (w := w') _ _ z1]; exact congrArg (fun x => Result.ok (Value.string x) w') sa
  have a3 : ∀ w' : World, (Op.stringOp .add (⟨(L ++ [46]).toArray⟩ : ByteArray) ⟨q.toArray⟩).run Tryz.prog w' = .ok (.string ⟨(L ++ 46 :: q).toArray⟩) w' := fun w' => by rw [run_string_add_sum (P := Tryz.prog) (w := w') _ _ z2, sb]
  clear z1 z2
  have ws : IntKind.i64.wrap (s : Int) = s := IntWalk.i64_in _ (by omega)
  have wr : IntKind.i64.wrap (r : Int) = r := IntWalk.i64_in _ (by omega)
  have m1 : ¬ (d : Int) < 1 := by omega
  have m9 : ¬ (9 : Int) < d := by omega
  clear em hT
  by_cases h8 : d ≤ 8
  · obtain ⟨u, ub, tu, NR⟩ := R8 h8
    have m8 : ¬ (8 : Int) < d := by omega
    clear R8 R9 h8
    rcases (show (a < 0 ∧ 0 < n) ∨ (a < 0 ∧ n = 0) ∨ ¬ a < 0 by omega) with ⟨g1, g2⟩ | ⟨g1, g2⟩ | g1
    · have g3 : (0 : Int) < n := by omega
      have K := Lib.hid ((K1.out g1 g2).trans (congrArg _ hB.out))
      clear K1 K2 g2
      go_enter Tryz.func70, Tryz.ntmps70
      go_wp2_with (first | (go_at_call 124; refine (NT _).mono ?_; rintro e w' ⟨rfl, rfl⟩) | (go_at_call 125; refine (NR _).mono ?_; rintro e w' ⟨rfl, k, rfl⟩))
      have hS := TS.drewN hTS k
      go_region_held3 (fun w' => TS w w') (first | exact TS.drew hS | assumption) (first | (go_at_call 71; refine (FI _ (by assumption)).mono ?_; rintro e w' ⟨rfl, hb⟩; have hk := TS.call (by assumption) hb; clear hb) | (go_at_call 126; refine (PD _ (by assumption)).mono ?_; rintro e w' ⟨rfl, hb⟩; have hk := TS.call (by assumption) hb; clear hb))
      all_goals
        go_wp2_with fail
        go_ret2
        exact ⟨by rw [K.out]; rfl, TS.below (by assumption)⟩
    · have K := Lib.hid ((K2.out (by omega)).trans hB.out)
      have g3 : ¬ (0 : Int) < n := by omega
      clear K1 K2 g2
      go_enter Tryz.func70, Tryz.ntmps70
      go_wp2_with (first | (go_at_call 124; refine (NT _).mono ?_; rintro e w' ⟨rfl, rfl⟩) | (go_at_call 125; refine (NR _).mono ?_; rintro e w' ⟨rfl, k, rfl⟩))
      have hS := TS.drewN hTS k
      go_region_held3 (fun w' => TS w w') (first | exact TS.drew hS | assumption) (first | (go_at_call 71; refine (FI _ (by assumption)).mono ?_; rintro e w' ⟨rfl, hb⟩; have hk := TS.call (by assumption) hb; clear hb) | (go_at_call 126; refine (PD _ (by assumption)).mono ?_; rintro e w' ⟨rfl, hb⟩; have hk := TS.call (by assumption) hb; clear hb))
      all_goals
        go_wp2_with fail
        go_ret2
        exact ⟨by rw [K.out]; rfl, TS.below (by assumption)⟩
    · have K := Lib.hid ((K2.out (by omega)).trans hB.out)
      clear K1 K2
      go_enter Tryz.func70, Tryz.ntmps70
      go_wp2_with (first | (go_at_call 124; refine (NT _).mono ?_; rintro e w' ⟨rfl, rfl⟩) | (go_at_call 125; refine (NR _).mono ?_; rintro e w' ⟨rfl, k, rfl⟩))
      have hS := TS.drewN hTS k
      go_region_held3 (fun w' => TS w w') (first | exact TS.drew hS | assumption) (first | (go_at_call 71; refine (FI _ (by assumption)).mono ?_; rintro e w' ⟨rfl, hb⟩; have hk := TS.call (by assumption) hb; clear hb) | (go_at_call 126; refine (PD _ (by assumption)).mono ?_; rintro e w' ⟨rfl, hb⟩; have hk := TS.call (by assumption) hb; clear hb))
      all_goals
        go_wp2_with fail
        go_ret2
        exact ⟨by rw [K.out]; rfl, TS.below (by assumption)⟩
  · have NR := R9 (by omega)
    have m8 : (8 : Int) < d := by omega
    clear R8 R9 h8
    rcases (show (a < 0 ∧ 0 < n) ∨ (a < 0 ∧ n = 0) ∨ ¬ a < 0 by omega) with ⟨g1, g2⟩ | ⟨g1, g2⟩ | g1
    · have g3 : (0 : Int) < n := by omega
      have K := Lib.hid ((K1.out g1 g2).trans (congrArg _ hB.out))
      clear K1 K2 g2
      go_enter Tryz.func70, Tryz.ntmps70
      go_wp2_with (first | (go_at_call 124; refine (NT _).mono ?_; rintro e w' ⟨rfl, rfl⟩) | (go_at_call 125; refine (NR _).mono ?_; rintro e w' ⟨rfl, k, rfl⟩))
      have hS := TS.drewN hTS k
      go_region_held3 (fun w' => TS w w') (first | exact TS.drew hS | assumption) (first | (go_at_call 71; refine (FI _ (by assumption)).mono ?_; rintro e w' ⟨rfl, hb⟩; have hk := TS.call (by assumption) hb; clear hb) | (go_at_call 126; refine (PD _ (by assumption)).mono ?_; rintro e w' ⟨rfl, hb⟩; have hk := TS.call (by assumption) hb; clear hb))
      all_goals
        go_wp2_with fail
        go_ret2
        exact ⟨by rw [K.out]; rfl, TS.below (by assumption)⟩
    · have K := Lib.hid ((K2.out (by omega)).trans hB.out)
      have g3 : ¬ (0 : Int) < n := by omega
      clear K1 K2 g2
      go_enter Tryz.func70, Tryz.ntmps70
      go_wp2_with (first | (go_at_call 124; refine (NT _).mono ?_; rintro e w' ⟨rfl, rfl⟩) | (go_at_call 125; refine (NR _).mono ?_; rintro e w' ⟨rfl, k, rfl⟩))
      have hS := TS.drewN hTS k
      go_region_held3 (fun w' => TS w w') (first | exact TS.drew hS | assumption) (first | (go_at_call 71; refine (FI _ (by assumption)).mono ?_; rintro e w' ⟨rfl, hb⟩; have hk := TS.call (by assumption) hb; clear hb) | (go_at_call 126; refine (PD _ (by assumption)).mono ?_; rintro e w' ⟨rfl, hb⟩; have hk := TS.call (by assumption) hb; clear hb))
      all_goals
        go_wp2_with fail
        go_ret2
        exact ⟨by rw [K.out]; rfl, TS.below (by assumption)⟩
    · have K := Lib.hid ((K2.out (by omega)).trans hB.out)
      clear K1 K2
      go_enter Tryz.func70, Tryz.ntmps70
      go_wp2_with (first | (go_at_call 124; refine (NT _).mono ?_; rintro e w' ⟨rfl, rfl⟩) | (go_at_call 125; refine (NR _).mono ?_; rintro e w' ⟨rfl, k, rfl⟩))
      have hS := TS.drewN hTS k
      go_region_held3 (fun w' => TS w w') (first | exact TS.drew hS | assumption) (first | (go_at_call 71; refine (FI _ (by assumption)).mono ?_; rintro e w' ⟨rfl, hb⟩; have hk := TS.call (by assumption) hb; clear hb) | (go_at_call 126; refine (PD _ (by assumption)).mono ?_; rintro e w' ⟨rfl, hb⟩; have hk := TS.call (by assumption) hb; clear hb))
      all_goals
        go_wp2_with fail
        go_ret2
        exact ⟨by rw [K.out]; rfl, TS.below (by assumption)⟩
end Gt
end Go.Proofs.YtaghilgfldaaiaaGreatDoor
/-
  Library contracts of prefixes and suffixes, laid at this program.
-/
namespace Go.Proofs
open Go.Shelf

def Tryz.laysV103_ren : Go.Shelf.Ren := ⟨fun | 103 => 132 | 210 => 183 | 206 => 95 | n => n, fun | 9 => 9 | 4 => 4 | 24 => 85 | 3 => 3 | n => n, fun n => n⟩
theorem Tryz.laysV103 : Go.Proofs.Lays.n103 Tryz.prog Tryz.laysV103_ren := {
  mixed := by kernel_rfl
  f103 := Tryz.func132.trans (congrArg some (by kernel_rfl))
  f206 := Tryz.func95.trans (congrArg some (by kernel_rfl))
  f210 := Tryz.func183.trans (congrArg some (by kernel_rfl))
  t3 := Tryz.underlying3
  a3 := Tryz.isAgg3
  z3 := Tryz.sizeOf3
  v3 := Tryz.zeroValue3
  t4 := Tryz.underlying4
  a4 := Tryz.isAgg4
  z4 := Tryz.sizeOf4
  v4 := Tryz.zeroValue4
  t9 := Tryz.underlying9
  a9 := Tryz.isAgg9
  z9 := Tryz.sizeOf9
  v9 := Tryz.zeroValue9
  t24 := Tryz.underlying85
  a24 := Tryz.isAgg85
  z24 := Tryz.sizeOf85
  v24 := Tryz.zeroValue85 }
theorem Tryz.strings_CutPrefix (s p : ByteArray) (w : World) :
    Calls Tryz.prog 132 #[.string s, .string p] w fun e w' => e = .returned (.tuple #[.string ⟨(Lib.trimPrefix s.data.toList p.data.toList).toArray⟩, .bool (Lib.hasPrefix s.data.toList p.data.toList)]) ∧ w' = w := Any.strings_CutPrefix Tryz.laysV103 s p w

end Go.Proofs
/-
  Head and tail of a text of degrees.
-/
namespace Go.Proofs.YtaghilgfldaaiaaGreatDoor
namespace Gp
open Go.RowKit Lw

theorem point_iff (c : UInt8) : (c == 46) = true ↔ ((c.toNat : Nat) : Int) = 46 := by
  have e : c = 46 ↔ c.toNat = (46 : UInt8).toNat := UInt8.toNat_inj.symm
  have h46 : (46 : UInt8).toNat = 46 := rfl
  rw [beq_iff_eq, e, h46]
  omega
abbrev noPt (c : UInt8) : Bool := decide (¬ ((c.toNat : Nat) : Int) = 46)
theorem idx_pt : ∀ l : List UInt8, Lib.indexByte l 46 = if (l.takeWhile noPt).length < l.length then (((l.takeWhile noPt).length : Nat) : Int) else -1
  | [] => rfl
  | b :: l => by
    have ih := idx_pt l
    unfold Lib.indexByte
    by_cases h : (b == 46) = true
    · have hb : noPt b = false := decide_eq_false (not_not_intro ((point_iff b).1 h))
      rw [if_pos h, List.takeWhile_cons, hb]
      simp
    · have hb : noPt b = true := decide_eq_true fun g => h ((point_iff b).2 g)
      rw [if_neg h, List.takeWhile_cons, if_pos hb, ih]
      simp only [List.length_cons, beq_iff_eq]
      by_cases g : (l.takeWhile noPt).length < l.length
      · rw [if_pos g, if_neg (by omega), if_pos (by omega)]
        omega
      · rw [if_neg g, if_pos rfl, if_neg (by omega)]
theorem cut_pt (l : List UInt8) : Lib.cut l [46] = if (l.takeWhile noPt).length < l.length then (l.take (l.takeWhile noPt).length, l.drop ((l.takeWhile noPt).length + 1), true) else (l, [], false) := by
  unfold Lib.cut
  rw [Lib.index_one, idx_pt]
  by_cases h : (l.takeWhile noPt).length < l.length
  · rw [if_pos h, if_pos h, if_pos (by omega)]
    simp
  · rw [if_neg h, if_neg h, if_neg (by omega)]
theorem pt_def (t : ByteArray) : (t.data.toList.takeWhile noPt).length = ptOf t := rfl
/-- The same in terms of head and tail. -/
def formH (h r : ByteArray) : Prop := 1 ≤ r.size ∧ 1 ≤ h.size ∧ h.size ≤ 3 ∧ r.size ≤ 9 ∧ (h.size ≤ 1 ∨ ¬ (((h.get! 0).toNat : Nat) : Int) = 48)
def DegH (neg : Bool) (h r : ByteArray) (v e : Int) : Prop :=
  (formH h r ∧ numP neg (numV h.data.toList) (numV r.data.toList) ∧ v = sgnI neg (numV h.data.toList * 3600000000 + fracI (numV r.data.toList) r.size) ∧ e = 0) ∨ (¬ (formH h r ∧ numP neg (numV h.data.toList) (numV r.data.toList)) ∧ v = 0 ∧ e = 12)
theorem cut_none (neg : Bool) (t : ByteArray) (h : (Lib.cut t.data.toList [46]).2.2 = false) : DegT neg t (ptOf t) 0 12 := by
  rw [cut_pt, pt_def] at h
  refine Or.inr ⟨fun g => ?_, rfl, rfl⟩
  have g1 := g.1.1
  rw [if_pos (by simp; omega)] at h
  cases h
theorem cut_some (neg : Bool) (t : ByteArray) (h : (Lib.cut t.data.toList [46]).2.2 = true) : ∀ v e, DegH neg ⟨(Lib.cut t.data.toList [46]).1.toArray⟩ ⟨(Lib.cut t.data.toList [46]).2.1.toArray⟩ v e → DegT neg t (ptOf t) v e := by
  rw [cut_pt, pt_def] at h ⊢
  by_cases g : ptOf t < t.data.toList.length
  · rw [if_pos g] at h ⊢
    have gs : ptOf t < t.size := by simpa using g
    have e1 : (⟨(t.data.toList.take (ptOf t)).toArray⟩ : ByteArray) = t.extract 0 (ptOf t) := by
      apply ByteArray.ext
      apply Array.toList_inj.1
      simp
    have e2 : (⟨(t.data.toList.drop (ptOf t + 1)).toArray⟩ : ByteArray) = t.extract (ptOf t + 1) t.size := by
      apply ByteArray.ext
      apply Array.toList_inj.1
      rw [Lib.extract_to_end]
    show ∀ v e, DegH neg ⟨(t.data.toList.take (ptOf t)).toArray⟩ ⟨(t.data.toList.drop (ptOf t + 1)).toArray⟩ v e → _
    rw [e1, e2]
    have z1 : (t.extract 0 (ptOf t)).size = ptOf t := by simp; omega
    have z2 : (t.extract (ptOf t + 1) t.size).size = t.size - (ptOf t + 1) := by simp
    have fi : formH (t.extract 0 (ptOf t)) (t.extract (ptOf t + 1) t.size) ↔ formP t (ptOf t) := by
      unfold formH formP
      rw [z1, z2]
      by_cases h0 : 0 < ptOf t
      · have hg : (t.extract 0 (ptOf t)).get! 0 = t.get! 0 := by
          simp [ByteArray.get!]
          rw [getElem!_pos _ _ (by simp; omega), getElem!_pos _ _ (by have : t.data.size = t.size := rfl; omega)]
          simp
        rw [hg]
        constructor <;> (rintro ⟨a1, a2, a3, a4, a5⟩; exact ⟨by omega, by omega, by omega, by omega, a5⟩)
      · constructor <;> (rintro ⟨a1, a2, a3, a4, a5⟩; omega)
    intro v e H
    rcases H with ⟨h1, h2, h3, h4⟩ | ⟨h1, h2, h3⟩
    · exact Or.inl ⟨fi.1 h1, h2, by rw [z2] at h3; exact h3, h4⟩
    · exact Or.inr ⟨fun g => h1 ⟨fi.2 g.1, g.2⟩, h2, h3⟩
  · rw [if_neg g] at h
    cases h
theorem pre_neg (s : ByteArray) : (⟨(Lib.trimPrefix s.data.toList [45]).toArray⟩ : ByteArray) = bodyOf s ∧ Lib.hasPrefix s.data.toList [45] = negB s := by
  have hp : Lib.hasPrefix s.data.toList [45] = negB s := by
    unfold negB Lib.hasPrefix
    obtain ⟨l, rfl⟩ : ∃ l : List UInt8, s = ⟨l.toArray⟩ := ⟨s.data.toList, (arr_str s).symm⟩
    rw [mk_list]
    cases l with
    | nil => exact (decide_eq_false fun g => by have := g.1; simp [ByteArray.size] at this).symm
    | cons c r =>
      have e : c = 45 ↔ c.toNat = (45 : UInt8).toNat := UInt8.toNat_inj.symm
      have h45 : (45 : UInt8).toNat = 45 := rfl
      have : negP ⟨(c :: r).toArray⟩ ↔ c = 45 := by
        unfold negP
        rw [get0, size_mk, e, h45]
        simp only [List.length_cons]
        omega
      rw [List.isPrefixOf_cons_cons, List.isPrefixOf_nil_left, Bool.and_true]
      by_cases h : c = 45
      · rw [decide_eq_true (this.2 h), h]; rfl
      · rw [decide_eq_false fun g => h (this.1 g)]
        exact beq_eq_false_iff_ne.2 fun g => h g.symm
  refine ⟨?_, hp⟩
  unfold Lib.trimPrefix bodyOf
  rw [hp]
  by_cases h : negP s
  · rw [if_pos h, if_pos (show negB s = true from decide_eq_true h)]
    apply ByteArray.ext
    apply Array.toList_inj.1
    rw [Lib.extract_to_end]
    simp
  · rw [if_neg h, if_neg (by rw [negB, decide_eq_false h]; exact Bool.false_ne_true)]
    first | done | exact arr_str s
theorem frac_letters (E : Int) (n : Nat) (h0 : 0 ≤ E) (h1 : E < 10 ^ n) (hn : n ≤ 9) :
    (n ≤ 8 ∧ ∃ T Q : Int, tenI n = T ∧ (3600000000 : Int).tdiv T = Q ∧ 1 ≤ T ∧ T ≤ 100000000 ∧ 0 ≤ Q ∧ Q ≤ 3600000000 ∧ 0 ≤ E * Q ∧ E * Q ≤ 18000000001 ∧ fracI E n = E * Q) ∨
    (n = 9 ∧ ∃ T R : Int, tenI n = T ∧ 100000000 < T ∧ T ≤ 1000000000 ∧ 0 ≤ R ∧ R ≤ 18000000001 ∧ fracI E n = R ∧ E ≤ 999999999 ∧
      ∀ w : World, Calls Tryz.prog 125 #[.int .i64 (E * 18), .int .i64 5] w fun e w' => e = .returned (.int .i64 R) ∧ Below w.heap.size w w') := by
  obtain ⟨T, C, M, U, R, eT, eM, eU, c1, c2, t1, t2, mm1, mm2, u1, u2, p1, p2, r1, r2, eR, NC, NR⟩ := deg_letters E n h0 h1 hn
  by_cases h9 : n = 9
  · subst h9
    refine Or.inr ⟨rfl, _, R, rfl, by decide, by decide, r1, r2, eR.out, by omega, fun w => ?_⟩
    obtain ⟨e, rfl⟩ : ∃ e : Nat, E = e := ⟨E.toNat, by omega⟩
    have e18 : (e : Int) * 18 = ((e * 18 : Nat) : Int) := by simp
    have := round_any (e * 18) 5 w (by omega) (by omega) (by omega)
    rw [← e18] at this
    rw [← eR.out, frac_9]
    exact this.mono fun _ _ ⟨a, m, b⟩ => ⟨a, by rw [b]; exact drewN_below2 (Below.refl _ _) m⟩
  · have n8 : n ≤ 8 := by omega
    have tb : tenI n ≤ 100000000 := by
      have : ∀ k : Nat, k ≤ 8 → tenI k ≤ 100000000 := by decide
      exact this n n8
    have ft := frac_8 E n n8
    have eq : (3600000000 : Int).tdiv (tenI n) = 3600000000 / tenI n := Int.tdiv_eq_ediv_of_nonneg (by omega)
    have q := div_bd (u := 3600000000) (by omega) (tenI_bd n (by omega)).1
    rw [← eq] at ft q
    have fb := eR.out
    rw [ft] at fb
    exact Or.inl ⟨n8, _, _, rfl, rfl, (tenI_bd n (by omega)).1, tb, q.1, q.2, by omega, by omega, ft⟩
end Gp
end Go.Proofs.YtaghilgfldaaiaaGreatDoor
/-
  ParseDeg of package angle.
-/
namespace Go.Proofs.YtaghilgfldaaiaaGreatDoor
namespace Gp
open Go.RowKit Lw

set_option maxRecDepth 100000 in
set_option maxHeartbeats 40000000 in
theorem deg_true (s t : ByteArray) (w : World) (m : Int) (hm : w.cell? ⟨1, 0, none⟩ = some (.int .i64 m)) (_hs : s.size ≤ 1000) (ht : bodyOf s = t) (hts : t.size ≤ 1000) (hneg : negB s = true) :
    Calls Tryz.prog 129 #[.string s] w fun e w' => ∃ v c : Int, e = .returned (.tuple #[.int .i64 v, .int .i64 c]) ∧ DegT true t (ptOf t) v c ∧ Below w.heap.size w w' := by
  have PN : Calls Tryz.prog 132 #[.string s, .string ⟨#[45]⟩] w fun e w' => e = .returned (.tuple #[.string t, .bool true]) ∧ w' = w := by
    have := Tryz.strings_CutPrefix s ⟨#[45]⟩ w
    have e := pre_neg s
    rw [ht, hneg] at e
    show Calls _ _ _ _ _
    rw [show (⟨#[45]⟩ : ByteArray).data.toList = [45] from rfl, e.1, e.2] at this
    exact this
  have PC := Tryz.strings_Cut t ⟨#[46]⟩ m w (by omega) hm
  rw [show (⟨#[46]⟩ : ByteArray).data.toList = [46] from rfl] at PC
  have K0 := Lib.hid (cut_none true t)
  have K1 := Lib.hid (cut_some true t)
  have KS : (⟨(Lib.cut t.data.toList [46]).1.toArray⟩ : ByteArray).size ≤ 1000 ∧ (⟨(Lib.cut t.data.toList [46]).2.1.toArray⟩ : ByteArray).size ≤ 1000 := by
    have hl : t.data.toList.length = t.size := by simp
    rw [size_mk, size_mk]
    unfold Lib.cut
    split
    · simp only [List.length_take, List.length_drop]; omega
    · simp only [List.length_nil]; omega
  generalize (⟨(Lib.cut t.data.toList [46]).1.toArray⟩ : ByteArray) = h at *
  generalize (⟨(Lib.cut t.data.toList [46]).2.1.toArray⟩ : ByteArray) = r at *
  generalize (Lib.cut t.data.toList [46]).2.2 = is at *
  obtain ⟨hh1, hr1⟩ := KS
  clear ht hneg hts hm
  go_enter Tryz.func129, Tryz.ntmps129
  go_wp2_with fail
  go_at_call 132
  refine PN.mono ?_
  rintro e wx ⟨rfl, hx⟩
  rw [hx]
  clear PN hx wx
  go_wp2_with fail
  go_at_call 108
  refine PC.mono ?_
  rintro e wx ⟨rfl, nn, rfl⟩
  clear PC
  cases is with
  | false =>
    have hw := Lib.hid (K0.out rfl)
    clear K0 K1
    go_wp2_with fail
    all_goals go_ret2
    all_goals exact ⟨0, 12, rfl, hw.out, drewN_below2 (Below.refl _ _) _⟩
  | true =>
    have K1 := Lib.hid (K1.out rfl)
    clear K0
    by_cases hf : formH h r
    · have hfP := Lib.hid hf
      obtain ⟨f1, f2, f3, f4, f5⟩ := hf
      have z9 : r.size ≤ 9 := f4
      have VH : ∀ w : World, Calls Tryz.prog 182 #[.string h] w fun e w' => e = .returned (.int .i64 (numV h.data.toList)) ∧ Below w.heap.size w w' := fun w => value_b h w (by omega)
      have VR : ∀ w : World, Calls Tryz.prog 182 #[.string r] w fun e w' => e = .returned (.int .i64 (numV r.data.toList)) ∧ Below w.heap.size w w' := fun w => value_b r w (by omega)
      have D1 := numV_3 (l := h.data.toList) (by simpa using f3)
      have E1 := numV_9 (l := r.data.toList) (by simpa using f4)
      have hE10 : numV r.data.toList < 10 ^ r.size := by
        have := (numV_bd r.data.toList).2
        have e : r.data.toList.length = r.size := by simp
        rw [e] at this
        exact this
      have hw : Hid (¬ numP true (numV h.data.toList) (numV r.data.toList) → DegT true t (ptOf t) 0 12) := Lib.hid fun hn => K1.out _ _ (Or.inr ⟨fun g => hn g.2, rfl, rfl⟩)
      have hv : Hid (numP true (numV h.data.toList) (numV r.data.toList) → ∀ v, v = sgnI true (numV h.data.toList * 3600000000 + fracI (numV r.data.toList) r.size) → DegT true t (ptOf t) v 0) := Lib.hid fun hn v hv => K1.out _ _ (Or.inl ⟨hfP.out, hn, hv, rfl⟩)
      generalize numV h.data.toList = D at *
      generalize numV r.data.toList = E at *
      obtain ⟨D0, D9⟩ := D1
      obtain ⟨E0, E9⟩ := E1
      have i0 : 0 < h.size := by omega
      have m0 : (0 : Int) < h.size := by omega
      have a1 : ¬ (h.size : Int) < 1 := by omega
      have a2 : ¬ (3 : Int) < h.size := by omega
      have a3 : ¬ (r.size : Int) < 1 := by omega
      have a4 : ¬ (9 : Int) < r.size := by omega
      have hf5 : ¬ (1 : Int) < h.size ∨ ((1 : Int) < h.size ∧ (((h[0].toNat : Nat) : Int) == 48) = false) := by
        by_cases g : 1 < h.size
        · refine Or.inr ⟨by omega, beq_eq_false_iff_ne.2 ?_⟩
          rcases f5 with q | q
          · omega
          · rw [at_of h 0 i0] at q; exact q
        · exact Or.inl (by omega)
      clear K1 hfP f1 f2 f3 f4 f5
      have hS : ∀ wx wy, Below (w.drewN nn).heap.size (w.drewN nn) wx → Below wx.heap.size wx wy → Below w.heap.size w wy := fun wx wy b1 b2 => (Below.trans (drewN_below2 (Below.refl w.heap.size w) nn) b1).trans (b2.mono b1.size)
      rcases hf5 with g | ⟨g, g'⟩
      all_goals
        go_wp2_with fail
        go_at_call 182
        refine (VH _).mono ?_
        rintro e w2 ⟨rfl, hb1⟩
        go_wp2_with fail
        go_at_call 182
        refine (VR _).mono ?_
        rintro e w3 ⟨rfl, hb2⟩
        have hB := hS _ _ hb1 hb2
        clear VH VR hS hb1 hb2
        by_cases hn : numP true D E
        · obtain ⟨n1, n2, n3, n4, n5⟩ := hn
          have hv := Lib.hid (fun v h => hv.out ⟨n1, n2, n3, n4, n5⟩ v h)
          rcases frac_letters E r.size n2 hE10 z9 with ⟨n8, T, Q, eT, eQ, t1, t2, q1, q2, p1, p2, eF⟩ | ⟨n9, T, R, eT, t1, t2, r1, r2, eF, e9, NR⟩
          · have NT : ∀ w : World, Calls Tryz.prog 124 #[.int .i64 r.size] w fun e w' => e = .returned (.int .i64 T) ∧ w = w' := fun w => by rw [← eT]; exact ten_any _ w (by omega)
            have hv := Lib.hid (hv.out _ rfl)
            rw [eF] at hv
            clear eT eF
            have hcase : ((D == 360) = true ∧ ¬ (0 : Int) < E ∧ (D == 0) = false) ∨ ((D == 360) = false ∧ (D == 0) = false) ∨ ((D == 360) = false ∧ (D == 0) = true ∧ (E == 0) = false) := by
              by_cases q : D = 360
              · have e0 : E = 0 := by omega
                exact Or.inl ⟨by simp [q], by omega, by simp [q]⟩
              · by_cases q0 : D = 0
                · have e0 : E ≠ 0 := by
                    rcases n5 with h | h | h
                    · exact absurd h (by simp)
                    · exact absurd q0 h
                    · exact h
                  exact Or.inr (Or.inr ⟨by simp [q], by simp [q0], by simp [e0]⟩)
                · exact Or.inr (Or.inl ⟨by simp [q], by simp [q0]⟩)
            clear n4 n5
            rcases hcase with ⟨g1, g2, g3⟩ | ⟨g1, g2⟩ | ⟨g1, g2, g3⟩
            all_goals
              go_wp2_with (go_at_call 124; refine (NT _).mono ?_; rintro e w' ⟨rfl, rfl⟩)
              all_goals go_ret2
              all_goals exact ⟨_, _, rfl, hv.out, hB⟩
          · have NT : ∀ w : World, Calls Tryz.prog 124 #[.int .i64 r.size] w fun e w' => e = .returned (.int .i64 T) ∧ w = w' := fun w => by rw [← eT]; exact ten_any _ w (by omega)
            have hv := Lib.hid (hv.out _ rfl)
            rw [eF] at hv
            clear eT eF n9
            have hcase : ((D == 360) = true ∧ ¬ (0 : Int) < E ∧ (D == 0) = false) ∨ ((D == 360) = false ∧ (D == 0) = false) ∨ ((D == 360) = false ∧ (D == 0) = true ∧ (E == 0) = false) := by
              by_cases q : D = 360
              · have e0 : E = 0 := by omega
                exact Or.inl ⟨by simp [q], by omega, by simp [q]⟩
              · by_cases q0 : D = 0
                · have e0 : E ≠ 0 := by
                    rcases n5 with h | h | h
                    · exact absurd h (by simp)
                    · exact absurd q0 h
                    · exact h
                  exact Or.inr (Or.inr ⟨by simp [q], by simp [q0], by simp [e0]⟩)
                · exact Or.inr (Or.inl ⟨by simp [q], by simp [q0]⟩)
            clear n4 n5
            rcases hcase with ⟨g1, g2, g3⟩ | ⟨g1, g2⟩ | ⟨g1, g2, g3⟩
            all_goals
              go_wp2_with (first | (go_at_call 124; refine (NT _).mono ?_; rintro e w' ⟨rfl, rfl⟩) | (go_at_call 125; refine (NR _).mono ?_; rintro e w' ⟨rfl, hb⟩))
              all_goals go_ret2
              all_goals exact ⟨_, _, rfl, hv.out, hB.trans (Below.mono (by assumption) hB.size)⟩
        · have hw := Lib.hid (hw.out hn)
          clear hv
          unfold numP at hn
          simp only [reduceCtorEq, false_or] at hn
          go_wp2_with fail
          all_goals first
            | (exfalso; omega)
            | (exfalso; have hq : ¬ E = 0 := beq_eq_false_iff_ne.1 (by first | assumption | exact And.right (by assumption)); omega)
            | (go_ret2
               exact ⟨0, 12, rfl, hw.out, hB⟩)
    · have hw := Lib.hid (K1.out 0 12 (Or.inr ⟨fun g => hf g.1, rfl, rfl⟩))
      clear K1
      by_cases i0 : 0 < h.size
      · have m0 : (0 : Int) < h.size := by omega
        unfold formH at hf
        rw [at_of h 0 i0] at hf
        go_wp2_with fail
        all_goals first
          | (exfalso; omega)
          | (exfalso; have hq : ¬ ((h[0].toNat : Nat) : Int) = 48 := beq_eq_false_iff_ne.1 (by first | assumption | exact And.right (by assumption)); omega)
          | (go_ret2
             exact ⟨0, 12, rfl, hw.out, drewN_below2 (Below.refl _ _) _⟩)
      · have m0 : (h.size : Int) = 0 := by omega
        go_wp2_with fail
        all_goals go_ret2
        all_goals exact ⟨0, 12, rfl, hw.out, drewN_below2 (Below.refl _ _) _⟩
end Gp
end Go.Proofs.YtaghilgfldaaiaaGreatDoor
/-
  ParseDeg of package angle.
-/
namespace Go.Proofs.YtaghilgfldaaiaaGreatDoor
namespace Gp
open Go.RowKit Lw

set_option maxRecDepth 100000 in
set_option maxHeartbeats 40000000 in
theorem deg_false (s t : ByteArray) (w : World) (m : Int) (hm : w.cell? ⟨1, 0, none⟩ = some (.int .i64 m)) (_hs : s.size ≤ 1000) (ht : bodyOf s = t) (hts : t.size ≤ 1000) (hneg : negB s = false) :
    Calls Tryz.prog 129 #[.string s] w fun e w' => ∃ v c : Int, e = .returned (.tuple #[.int .i64 v, .int .i64 c]) ∧ DegT false t (ptOf t) v c ∧ Below w.heap.size w w' := by
  have PN : Calls Tryz.prog 132 #[.string s, .string ⟨#[45]⟩] w fun e w' => e = .returned (.tuple #[.string t, .bool false]) ∧ w' = w := by
    have := Tryz.strings_CutPrefix s ⟨#[45]⟩ w
    have e := pre_neg s
    rw [ht, hneg] at e
    show Calls _ _ _ _ _
    rw [show (⟨#[45]⟩ : ByteArray).data.toList = [45] from rfl, e.1, e.2] at this
    exact this
  have PC := Tryz.strings_Cut t ⟨#[46]⟩ m w (by omega) hm
  rw [show (⟨#[46]⟩ : ByteArray).data.toList = [46] from rfl] at PC
  have K0 := Lib.hid (cut_none false t)
  have K1 := Lib.hid (cut_some false t)
  have KS : (⟨(Lib.cut t.data.toList [46]).1.toArray⟩ : ByteArray).size ≤ 1000 ∧ (⟨(Lib.cut t.data.toList [46]).2.1.toArray⟩ : ByteArray).size ≤ 1000 := by
    have hl : t.data.toList.length = t.size := by simp
    rw [size_mk, size_mk]
    unfold Lib.cut
    split
    · simp only [List.length_take, List.length_drop]; omega
    · simp only [List.length_nil]; omega
  generalize (⟨(Lib.cut t.data.toList [46]).1.toArray⟩ : ByteArray) = h at *
  generalize (⟨(Lib.cut t.data.toList [46]).2.1.toArray⟩ : ByteArray) = r at *
  generalize (Lib.cut t.data.toList [46]).2.2 = is at *
  obtain ⟨hh1, hr1⟩ := KS
  clear ht hneg hts hm
  go_enter Tryz.func129, Tryz.ntmps129
  go_wp2_with fail
  go_at_call 132
  refine PN.mono ?_
  rintro e wx ⟨rfl, hx⟩
  rw [hx]
  clear PN hx wx
  go_wp2_with fail
  go_at_call 108
  refine PC.mono ?_
  rintro e wx ⟨rfl, nn, rfl⟩
  clear PC
  cases is with
  | false =>
    have hw := Lib.hid (K0.out rfl)
    clear K0 K1
    go_wp2_with fail
    all_goals go_ret2
    all_goals exact ⟨0, 12, rfl, hw.out, drewN_below2 (Below.refl _ _) _⟩
  | true =>
    have K1 := Lib.hid (K1.out rfl)
    clear K0
    by_cases hf : formH h r
    · have hfP := Lib.hid hf
      obtain ⟨f1, f2, f3, f4, f5⟩ := hf
      have z9 : r.size ≤ 9 := f4
      have VH : ∀ w : World, Calls Tryz.prog 182 #[.string h] w fun e w' => e = .returned (.int .i64 (numV h.data.toList)) ∧ Below w.heap.size w w' := fun w => value_b h w (by omega)
      have VR : ∀ w : World, Calls Tryz.prog 182 #[.string r] w fun e w' => e = .returned (.int .i64 (numV r.data.toList)) ∧ Below w.heap.size w w' := fun w => value_b r w (by omega)
      have D1 := numV_3 (l := h.data.toList) (by simpa using f3)
      have E1 := numV_9 (l := r.data.toList) (by simpa using f4)
      have hE10 : numV r.data.toList < 10 ^ r.size := by
        have := (numV_bd r.data.toList).2
        have e : r.data.toList.length = r.size := by simp
        rw [e] at this
        exact this
      have hw : Hid (¬ numP false (numV h.data.toList) (numV r.data.toList) → DegT false t (ptOf t) 0 12) := Lib.hid fun hn => K1.out _ _ (Or.inr ⟨fun g => hn g.2, rfl, rfl⟩)
      have hv : Hid (numP false (numV h.data.toList) (numV r.data.toList) → ∀ v, v = sgnI false (numV h.data.toList * 3600000000 + fracI (numV r.data.toList) r.size) → DegT false t (ptOf t) v 0) := Lib.hid fun hn v hv => K1.out _ _ (Or.inl ⟨hfP.out, hn, hv, rfl⟩)
      generalize numV h.data.toList = D at *
      generalize numV r.data.toList = E at *
      obtain ⟨D0, D9⟩ := D1
      obtain ⟨E0, E9⟩ := E1
      have i0 : 0 < h.size := by omega
      have m0 : (0 : Int) < h.size := by omega
      have a1 : ¬ (h.size : Int) < 1 := by omega
      have a2 : ¬ (3 : Int) < h.size := by omega
      have a3 : ¬ (r.size : Int) < 1 := by omega
      have a4 : ¬ (9 : Int) < r.size := by omega
      have hf5 : ¬ (1 : Int) < h.size ∨ ((1 : Int) < h.size ∧ (((h[0].toNat : Nat) : Int) == 48) = false) := by
        by_cases g : 1 < h.size
        · refine Or.inr ⟨by omega, beq_eq_false_iff_ne.2 ?_⟩
          rcases f5 with q | q
          · omega
          · rw [at_of h 0 i0] at q; exact q
        · exact Or.inl (by omega)
      clear K1 hfP f1 f2 f3 f4 f5
      have hS : ∀ wx wy, Below (w.drewN nn).heap.size (w.drewN nn) wx → Below wx.heap.size wx wy → Below w.heap.size w wy := fun wx wy b1 b2 => (Below.trans (drewN_below2 (Below.refl w.heap.size w) nn) b1).trans (b2.mono b1.size)
      rcases hf5 with g | ⟨g, g'⟩
      all_goals
        go_wp2_with fail
        go_at_call 182
        refine (VH _).mono ?_
        rintro e w2 ⟨rfl, hb1⟩
        go_wp2_with fail
        go_at_call 182
        refine (VR _).mono ?_
        rintro e w3 ⟨rfl, hb2⟩
        have hB := hS _ _ hb1 hb2
        clear VH VR hS hb1 hb2
        by_cases hn : numP false D E
        · obtain ⟨n1, n2, n3, n4, n5⟩ := hn
          have hv := Lib.hid (fun v h => hv.out ⟨n1, n2, n3, n4, n5⟩ v h)
          rcases frac_letters E r.size n2 hE10 z9 with ⟨n8, T, Q, eT, eQ, t1, t2, q1, q2, p1, p2, eF⟩ | ⟨n9, T, R, eT, t1, t2, r1, r2, eF, e9, NR⟩
          · have NT : ∀ w : World, Calls Tryz.prog 124 #[.int .i64 r.size] w fun e w' => e = .returned (.int .i64 T) ∧ w = w' := fun w => by rw [← eT]; exact ten_any _ w (by omega)
            have hv := Lib.hid (hv.out _ rfl)
            rw [eF] at hv
            clear eT eF
            have hcase : ((D == 360) = true ∧ ¬ (0 : Int) < E) ∨ ((D == 360) = false) := by
              by_cases q : D = 360
              · exact Or.inl ⟨by simp [q], by omega⟩
              · exact Or.inr (by simp [q])
            clear n4 n5
            rcases hcase with ⟨g1, g2⟩ | g1
            all_goals
              go_wp2_with (go_at_call 124; refine (NT _).mono ?_; rintro e w' ⟨rfl, rfl⟩)
              all_goals go_ret2
              all_goals exact ⟨_, _, rfl, hv.out, hB⟩
          · have NT : ∀ w : World, Calls Tryz.prog 124 #[.int .i64 r.size] w fun e w' => e = .returned (.int .i64 T) ∧ w = w' := fun w => by rw [← eT]; exact ten_any _ w (by omega)
            have hv := Lib.hid (hv.out _ rfl)
            rw [eF] at hv
            clear eT eF n9
            have hcase : ((D == 360) = true ∧ ¬ (0 : Int) < E) ∨ ((D == 360) = false) := by
              by_cases q : D = 360
              · exact Or.inl ⟨by simp [q], by omega⟩
              · exact Or.inr (by simp [q])
            clear n4 n5
            rcases hcase with ⟨g1, g2⟩ | g1
            all_goals
              go_wp2_with (first | (go_at_call 124; refine (NT _).mono ?_; rintro e w' ⟨rfl, rfl⟩) | (go_at_call 125; refine (NR _).mono ?_; rintro e w' ⟨rfl, hb⟩))
              all_goals go_ret2
              all_goals exact ⟨_, _, rfl, hv.out, hB.trans (Below.mono (by assumption) hB.size)⟩
        · have hw := Lib.hid (hw.out hn)
          clear hv
          unfold numP at hn
          simp only [true_or, and_true] at hn
          go_wp2_with fail
          all_goals first
            | (exfalso; omega)
            | (exfalso; have hq : ¬ E = 0 := beq_eq_false_iff_ne.1 (by first | assumption | exact And.right (by assumption)); omega)
            | (go_ret2
               exact ⟨0, 12, rfl, hw.out, hB⟩)
    · have hw := Lib.hid (K1.out 0 12 (Or.inr ⟨fun g => hf g.1, rfl, rfl⟩))
      clear K1
      by_cases i0 : 0 < h.size
      · have m0 : (0 : Int) < h.size := by omega
        unfold formH at hf
        rw [at_of h 0 i0] at hf
        go_wp2_with fail
        all_goals first
          | (exfalso; omega)
          | (exfalso; have hq : ¬ ((h[0].toNat : Nat) : Int) = 48 := beq_eq_false_iff_ne.1 (by first | assumption | exact And.right (by assumption)); omega)
          | (go_ret2
             exact ⟨0, 12, rfl, hw.out, drewN_below2 (Below.refl _ _) _⟩)
      · have m0 : (h.size : Int) = 0 := by omega
        go_wp2_with fail
        all_goals go_ret2
        all_goals exact ⟨0, 12, rfl, hw.out, drewN_below2 (Below.refl _ _) _⟩
end Gp
end Go.Proofs.YtaghilgfldaaiaaGreatDoor
/-
  ParseDeg of package angle, for any text.
-/
namespace Go.Proofs.YtaghilgfldaaiaaGreatDoor
namespace Gp
open Go.RowKit Lw

theorem body_size (s : ByteArray) : (bodyOf s).size ≤ s.size := by
  unfold bodyOf
  split
  · simp
  · exact Nat.le_refl _
theorem deg_any (s : ByteArray) (w : World) (m : Int) (hm : w.cell? ⟨1, 0, none⟩ = some (.int .i64 m)) (hs : s.size ≤ 100) :
    Calls Tryz.prog 129 #[.string s] w fun e w' => ∃ v c : Int, e = .returned (.tuple #[.int .i64 v, .int .i64 c]) ∧ DegT (negB s) (bodyOf s) (ptOf (bodyOf s)) v c ∧ Below w.heap.size w w' := by
  have hb := body_size s
  cases h : negB s with
  | true => exact deg_true s _ w m hm (by omega) rfl (by omega) h
  | false => exact deg_false s _ w m hm (by omega) rfl (by omega) h
end Gp
end Go.Proofs.YtaghilgfldaaiaaGreatDoor
/-
  The chapter's examples: alive returns true.
-/
namespace Go.Proofs.YtaghilgfldaaiaaGreatDoor
namespace Gt
open Go.RowKit Lw Gp

instance (s : ByteArray) : Decidable (shapeP s) := by unfold shapeP; infer_instance
instance (s : ByteArray) : Decidable (validP s) := by unfold validP; infer_instance
instance (t : ByteArray) (p : Nat) : Decidable (formP t p) := by unfold formP; infer_instance
instance (neg : Bool) (D F : Int) : Decidable (numP neg D F) := by unfold numP; infer_instance
instance (s : ByteArray) : Decidable (signP s) := by unfold signP; infer_instance
instance (s : ByteArray) : Decidable (decOk s) := by unfold decOk; infer_instance
instance (s : ByteArray) (v e : Int) : Decidable (RaIs s v e) := by unfold RaIs; infer_instance
instance (s : ByteArray) (v e : Int) : Decidable (DecIs s v e) := by unfold DecIs; infer_instance
instance (neg : Bool) (t : ByteArray) (p : Nat) (v e : Int) : Decidable (DegT neg t p v e) := by unfold DegT; infer_instance

theorem itoa_one (n : Nat) (h : n < 10) : Lib.itoa (n : Int) = [UInt8.ofNat (48 + n)] := by
  unfold Lib.itoa
  rw [if_neg (by omega), Int.toNat_natCast, Lib.decDigits_one h]
theorem itoa_two (n : Nat) (h1 : ¬ n < 10) (h : n < 100) : Lib.itoa (n : Int) = [UInt8.ofNat (48 + n / 10), UInt8.ofNat (48 + n % 10)] := by
  unfold Lib.itoa
  rw [if_neg (by omega), Int.toNat_natCast, Lib.decDigits_two h1 h]
theorem itoa_three (n : Nat) (h1 : ¬ n < 100) (h : n < 1000) : Lib.itoa (n : Int) = [UInt8.ofNat (48 + n / 10 / 10), UInt8.ofNat (48 + n / 10 % 10), UInt8.ofNat (48 + n % 10)] := by
  unfold Lib.itoa
  rw [if_neg (by omega), Int.toNat_natCast, Lib.decDigits, dif_neg (by omega), Lib.decDigits_two (by omega) (by omega)]
  rfl
theorem i0 : Lib.itoa 0 = [48] := itoa_one 0 (by omega)
theorem i1 : Lib.itoa 1 = [49] := itoa_one 1 (by omega)
/-- What the calls need of memory: the table, and the library's cell. -/
structure AS (m : Int) (w w' : World) : Prop where
  ts : TS w w'
  cell : w'.cell? ⟨1, 0, none⟩ = some (.int .i64 m)
theorem AS.call {m : Int} {w a b : World} (h : AS m w a) (hb : Below a.heap.size a b) : AS m w b :=
  ⟨h.ts.call hb, (hb.cell (p := ⟨1, 0, none⟩) (World.block_lt_of_cell? a _ h.cell)).trans h.cell⟩
theorem AS.start {m : Int} {w : World} (hT : Tab w) (hm : w.cell? ⟨1, 0, none⟩ = some (.int .i64 m)) : AS m w w := ⟨⟨hT, Below.refl _ _⟩, hm⟩
end Gt
end Go.Proofs.YtaghilgfldaaiaaGreatDoor
/-
  A text of degrees is read as its angle.
-/
namespace Go.Proofs.YtaghilgfldaaiaaGreatDoor
namespace Gt
open Go.RowKit Lw Gp

theorem dig_no (n : Nat) (h : n < 10) : noPt (UInt8.ofNat (48 + n)) = true := decide_eq_true (by rw [u8_of n h]; omega)
/-- The digits of a number below a hundred. -/
theorem dd_small (D : Nat) (h : D < 100) : ∃ (x : UInt8) (l : List UInt8), Lib.itoa (D : Int) = x :: l ∧ l.length ≤ 1 ∧ (∀ c ∈ x :: l, noPt c = true) ∧ ¬ ((x.toNat : Nat) : Int) = 45 ∧ ((x :: l).length ≤ 1 ∨ ¬ ((x.toNat : Nat) : Int) = 48) := by
  by_cases g : D < 10
  · refine ⟨_, [], itoa_one D g, by simp, fun c hc => ?_, by rw [u8_of D g]; omega, Or.inl (by simp)⟩
    rw [List.mem_singleton.1 hc]
    exact dig_no D g
  · refine ⟨_, _, itoa_two D g h, by simp, fun c hc => ?_, by rw [u8_of (D / 10) (by omega)]; omega, Or.inr (by rw [u8_of (D / 10) (by omega)]; omega)⟩
    rcases List.mem_cons.1 hc with rfl | hc
    · exact dig_no _ (by omega)
    · rw [List.mem_singleton.1 hc]
      exact dig_no _ (by omega)
theorem tw_app (l r : List UInt8) (h : ∀ c ∈ l, noPt c = true) : ((l ++ 46 :: r).takeWhile noPt) = l := by
  induction l with
  | nil => rfl
  | cons a l ih =>
    rw [List.cons_append, List.takeWhile_cons, if_pos (h a (by simp)), ih (fun c hc => h c (by simp [hc]))]
end Gt
end Go.Proofs.YtaghilgfldaaiaaGreatDoor
/-
  Texts of degrees with nine digits: plain laws of reading them back.
-/
namespace Go.Proofs.YtaghilgfldaaiaaGreatDoor
namespace Vp
open Go.RowKit Lw Gp Gt

/-- The digits of a number below a thousand. -/
theorem dd_thousand (D : Nat) (h : D < 1000) : ∃ (x : UInt8) (l : List UInt8), Lib.itoa (D : Int) = x :: l ∧ l.length ≤ 2 ∧ (∀ c ∈ x :: l, noPt c = true) ∧ ¬ ((x.toNat : Nat) : Int) = 45 ∧ ((x :: l).length ≤ 1 ∨ ¬ ((x.toNat : Nat) : Int) = 48) := by
  by_cases g : D < 100
  · obtain ⟨x, l, e, ll, h1, h2, h3⟩ := dd_small D g
    exact ⟨x, l, e, by omega, h1, h2, h3⟩
  · refine ⟨_, _, itoa_three D g h, by simp, fun c hc => ?_, by rw [u8_of (D / 10 / 10) (by omega)]; omega, Or.inr (by rw [u8_of (D / 10 / 10) (by omega)]; omega)⟩
    rcases List.mem_cons.1 hc with rfl | hc
    · exact dig_no _ (by omega)
    · rcases List.mem_cons.1 hc with rfl | hc
      · exact dig_no _ (by omega)
      · rw [List.mem_singleton.1 hc]
        exact dig_no _ (by omega)
/-- A text of degrees up to a whole turn, without its sign. -/
theorem degB_wide (neg : Bool) (N d : Nat) (h1 : 1 ≤ d) (hd : d ≤ 9) (hN : N ≤ 360 * 10 ^ d) (hneg : neg = true → 0 < N) :
    DegT neg ⟨(degB N d).toArray⟩ (ptOf ⟨(degB N d).toArray⟩) (sgnI neg (((N / 10 ^ d : Nat) : Int) * 3600000000 + fracI ((N % 10 ^ d : Nat) : Int) d)) 0 ∧ (∃ x l, degB N d = x :: l ∧ ¬ ((x.toNat : Nat) : Int) = 45) ∧ (degB N d).length ≤ d + 4 := by
  have hp : 1 ≤ 10 ^ d := Nat.pow_pos (by omega)
  have hr := Nat.mod_lt N hp
  have hdm := Nat.div_add_mod N (10 ^ d)
  have h360 : N / 10 ^ d ≤ 360 := Nat.div_le_of_le_mul (by rw [Nat.mul_comm]; exact hN)
  have hfull : N / 10 ^ d = 360 → N % 10 ^ d = 0 := fun e => by
    rw [e, Nat.mul_comm] at hdm
    omega
  obtain ⟨x, l, e, ll, hno, h45, h48⟩ := dd_thousand (N / 10 ^ d) (by omega)
  have nD := itoa_num (N / 10 ^ d)
  have nF := pad_num (N % 10 ^ d) d
  have lF := pad_size (N % 10 ^ d) d h1 hr
  have K : degB N d = (x :: l) ++ 46 :: padL ((N % 10 ^ d : Nat) : Int) d := by unfold degB; rw [e]
  obtain ⟨D, eD⟩ : ∃ D, N / 10 ^ d = D := ⟨_, rfl⟩
  obtain ⟨F, eF⟩ : ∃ F, N % 10 ^ d = F := ⟨_, rfl⟩
  rw [eF] at nF lF K hr hdm hfull
  rw [eD] at nD e h360 hdm hfull
  rw [eD, eF]
  rw [e] at nD
  generalize padL (F : Int) d = q at *
  have hl : (x :: l).length = l.length + 1 := rfl
  have pt : ptOf ⟨(degB N d).toArray⟩ = l.length + 1 := by
    show (((⟨(degB N d).toArray⟩ : ByteArray).data.toList).takeWhile noPt).length = _
    rw [mk_list, K, tw_app _ _ hno]; rfl
  have lK : (degB N d).length = l.length + 1 + 1 + d := by rw [K]; simp only [List.length_append, List.length_cons, lF]; omega
  have sz : (⟨(degB N d).toArray⟩ : ByteArray).size = l.length + 1 + 1 + d := by rw [size_mk, lK]
  have hD : degD ⟨(degB N d).toArray⟩ (l.length + 1) = D := by
    unfold degD
    have : ((⟨(degB N d).toArray⟩ : ByteArray).extract 0 (l.length + 1)).data.toList = x :: l := by
      have e1 : ((⟨(degB N d).toArray⟩ : ByteArray).extract 0 (l.length + 1)).data.toList = ((⟨(degB N d).toArray⟩ : ByteArray).data.toList).take (l.length + 1) := by simp
      rw [e1, mk_list, K, List.take_append_of_le_length (by simp)]
      exact List.take_of_length_le (by simp)
    rw [this]
    unfold numV
    rw [if_pos nD.2, nD.1]
  have hF : degF ⟨(degB N d).toArray⟩ (l.length + 1) = F := by
    unfold degF
    rw [Lib.extract_to_end, mk_list, K]
    have e1 : ((x :: l) ++ 46 :: q).drop (l.length + 1 + 1) = q := by simp
    rw [e1, nF]
  have g0 : ∀ (y : UInt8) (r : List UInt8), degB N d = y :: r → (⟨(degB N d).toArray⟩ : ByteArray).get! 0 = y := fun y r h => by rw [h, get0]
  have gx := g0 x (l ++ 46 :: q) (by rw [K]; rfl)
  refine ⟨?_, ⟨x, l ++ 46 :: q, by rw [K]; rfl, h45⟩, by omega⟩
  rw [pt]
  refine Or.inl ⟨⟨by omega, by omega, by omega, by omega, ?_⟩, ?_, ?_, rfl⟩
  · rw [gx]
    rcases h48 with h | h
    · exact Or.inl (by omega)
    · exact Or.inr h
  · rw [hD, hF]
    refine ⟨by omega, by omega, by omega, ?_, ?_⟩
    · by_cases z : D = 360
      · exact Or.inr (by have := hfull z; omega)
      · exact Or.inl (by omega)
    · cases neg with
      | false => exact Or.inl rfl
      | true =>
        have := hneg rfl
        by_cases z : D = 0
        · refine Or.inr (Or.inr ?_)
          rw [z, Nat.mul_zero] at hdm
          omega
        · exact Or.inr (Or.inl (by omega))
  · rw [hD, hF, sz, show l.length + 1 + 1 + d - (l.length + 1 + 1) = d by omega]
/-- The units of a text with nine digits, and the size of what is read from it. -/
def unN (m : Nat) : Nat := rndN (m * 5) 18
def unV (N : Nat) : Nat := N / 10 ^ 9 * 3600000000 + rndN (N % 10 ^ 9 * 18) 5
/-- What an angle is behind writing and reading it with nine digits. -/
def dgR (a : Int) : Int := if a < 0 ∧ 0 < unN a.natAbs then -((unV (unN a.natAbs) : Nat) : Int) else ((unV (unN a.natAbs) : Nat) : Int)
theorem un_le {m : Nat} (h : m ≤ 1296000000000) : unN m ≤ 360000000000 := by
  have := rnd_half (m * 5) 18 (by omega)
  unfold unN
  omega
theorem un_half (m : Nat) : 2 * ((unN m : Int) * 18 - (m : Int) * 5) ≤ 18 ∧ -18 ≤ 2 * ((unN m : Int) * 18 - (m : Int) * 5) := by
  have := rnd_half (m * 5) 18 (by omega)
  unfold unN
  omega
theorem uv_half (N : Nat) : 2 * ((unV N : Int) * 5 - (N : Int) * 18) ≤ 5 ∧ -5 ≤ 2 * ((unV N : Int) * 5 - (N : Int) * 18) := by
  have := rnd_half (N % 10 ^ 9 * 18) 5 (by omega)
  unfold unV
  have e := Nat.div_add_mod N (10 ^ 9)
  omega
theorem dg_bd {a : Int} {m : Nat} (h : unN m * 18 = m * 5) (h0 : -(m : Int) ≤ a) (h1 : a ≤ m) : -(m : Int) ≤ dgR a ∧ dgR a ≤ m := by
  have n1 := un_half a.natAbs
  have n2 := uv_half (unN a.natAbs)
  have le : unN a.natAbs ≤ unN m := by omega
  have : unV (unN a.natAbs) ≤ m := by omega
  unfold dgR
  split <;> omega
theorem dg_pole {a : Int} (h0 : -324000000000 ≤ a) (h1 : a ≤ 324000000000) : -324000000000 ≤ dgR a ∧ dgR a ≤ 324000000000 := dg_bd (m := 324000000000) (by decide +kernel) h0 h1
theorem dg_turn {a : Int} (h0 : 0 ≤ a) (h1 : a ≤ 1296000000000) : 0 ≤ dgR a ∧ dgR a ≤ 1296000000000 := by
  have := dg_bd (a := a) (m := 1296000000000) (by decide +kernel) (by omega) h1
  refine ⟨?_, this.2⟩
  unfold dgR
  rw [if_neg (by omega)]
  omega
theorem un_frac (N : Nat) : ((N / 10 ^ 9 : Nat) : Int) * 3600000000 + fracI ((N % 10 ^ 9 : Nat) : Int) 9 = ((unV N : Nat) : Int) := by
  rw [frac_9]
  unfold unV
  generalize N / 10 ^ 9 = D
  generalize N % 10 ^ 9 = F
  have fe := rndN_eq (F * 18) 5
  have fc : (F : Int) * 18 = ((F * 18 : Nat) : Int) := by simp
  have f5 : rndI ((F * 18 : Nat) : Int) 5 = ((rndN (F * 18) 5 : Nat) : Int) := fe.symm
  rw [fc, f5]
  generalize rndN (F * 18) 5 = y
  omega
/-- The text of degrees with nine digits is read. -/
theorem deg_read (a : Int) (h0 : -1296000000000 ≤ a) (h1 : a ≤ 1296000000000) : DegT (negB ⟨(degL a 9).toArray⟩) (bodyOf ⟨(degL a 9).toArray⟩) (ptOf (bodyOf ⟨(degL a 9).toArray⟩)) (dgR a) 0 ∧ (degL a 9).length ≤ 14 := by
  obtain ⟨m, em⟩ : ∃ m : Nat, a.natAbs = m := ⟨_, rfl⟩
  have eN : degN m 9 = unN m := if_pos (by omega)
  have nl := un_le (show m ≤ 1296000000000 by omega)
  have eV := un_frac (unN m)
  unfold degL dgR
  rw [em, eN]
  clear eN em
  obtain ⟨N, hN⟩ : ∃ N, unN m = N := ⟨_, rfl⟩
  rw [hN] at eV nl ⊢
  obtain ⟨V, hV⟩ : ∃ V : Int, ((unV N : Nat) : Int) = V := ⟨_, rfl⟩
  rw [hV] at eV ⊢
  clear hN hV
  by_cases g : a < 0 ∧ 0 < N
  · rw [if_pos g, if_pos g]
    obtain ⟨H, _, hl⟩ := degB_wide true N 9 (by omega) (by omega) (by omega) (fun _ => g.2)
    have hn : negP ⟨(45 :: degB N 9).toArray⟩ := ⟨by rw [size_mk]; simp, by rw [get0]; rfl⟩
    have e1 : negB ⟨(45 :: degB N 9).toArray⟩ = true := decide_eq_true hn
    have e2 : bodyOf ⟨(45 :: degB N 9).toArray⟩ = ⟨(degB N 9).toArray⟩ := by
      have := tail_mk 45 (degB N 9)
      unfold tailOf at this
      unfold bodyOf
      rw [if_pos hn, this]
    rw [e1, e2]
    rw [eV] at H
    exact ⟨H, by simp only [List.length_cons]; omega⟩
  · rw [if_neg g, if_neg g]
    obtain ⟨H, ⟨x, l, ex, h45⟩, hl⟩ := degB_wide false N 9 (by omega) (by omega) (by omega) (fun h => by cases h)
    have hn : ¬ negP ⟨(degB N 9).toArray⟩ := fun h => h45 (by
      have := h.2
      rw [ex, get0] at this
      exact this)
    have e1 : negB ⟨(degB N 9).toArray⟩ = false := decide_eq_false hn
    have e2 : bodyOf ⟨(degB N 9).toArray⟩ = ⟨(degB N 9).toArray⟩ := if_neg hn
    rw [e1, e2]
    rw [eV] at H
    exact ⟨H, by omega⟩
end Vp
end Go.Proofs.YtaghilgfldaaiaaGreatDoor
/-
  Plain law of tables: what a field is read as; rounding.
-/
namespace Go.Proofs.YtaghilgfldaaiaaGreatDoor
namespace Vp
open Go.RowKit Lw Go.Proofs.YtaghilgfldaaiaaGreatDoor.Ap Go.Proofs.YtaghilgfldaaiaaGreatDoor.Op Go.Proofs.YtaghilgfldaaiaaGreatDoor.Mp Go.Proofs.YtaghilgfldaaiaaGreatDoor.Mw

/-! ### Readers -/
def timeR (s : ByteArray) : Option Int := if Ap.okText s then some (Ap.textV s) else none
theorem timeR_is {s : ByteArray} {t e : Int} (h : Ap.ParseIs s t e) : (e = 0 ∧ timeR s = some t) ∨ (e = 12 ∧ t = 0 ∧ timeR s = none) := by
  rcases h with ⟨h1, h2, h3⟩ | ⟨h1, h2, h3⟩
  · exact Or.inl ⟨h3, by unfold timeR; rw [if_pos h1, h2]⟩
  · exact Or.inr ⟨h3, h2, by unfold timeR; rw [if_neg h1]⟩
instance (t : ByteArray) (p : Nat) : Decidable (Gp.formP t p) := by unfold Gp.formP; infer_instance
instance (b : Bool) (D F : Int) : Decidable (Gp.numP b D F) := by unfold Gp.numP; infer_instance
def okDeg (s : ByteArray) : Prop := Gp.formP (Gp.bodyOf s) (Gp.ptOf (Gp.bodyOf s)) ∧ Gp.numP (Gp.negB s) (Gp.degD (Gp.bodyOf s) (Gp.ptOf (Gp.bodyOf s))) (Gp.degF (Gp.bodyOf s) (Gp.ptOf (Gp.bodyOf s)))
instance (s : ByteArray) : Decidable (okDeg s) := by unfold okDeg; infer_instance
def degV (s : ByteArray) : Int := Gp.sgnI (Gp.negB s) (Gp.degD (Gp.bodyOf s) (Gp.ptOf (Gp.bodyOf s)) * 3600000000 + Gp.fracI (Gp.degF (Gp.bodyOf s) (Gp.ptOf (Gp.bodyOf s))) ((Gp.bodyOf s).size - (Gp.ptOf (Gp.bodyOf s) + 1)))
def degR (s : ByteArray) : Option Int := if okDeg s then some (degV s) else none
abbrev DegS (s : ByteArray) (v e : Int) : Prop := Gp.DegT (Gp.negB s) (Gp.bodyOf s) (Gp.ptOf (Gp.bodyOf s)) v e
theorem degR_is {s : ByteArray} {v e : Int} (h : DegS s v e) : (e = 0 ∧ degR s = some v) ∨ (e = 12 ∧ v = 0 ∧ degR s = none) := by
  rcases h with ⟨h1, h2, h3, h4⟩ | ⟨h1, h2, h3⟩
  · exact Or.inl ⟨h4, by unfold degR; rw [if_pos (show okDeg s from ⟨h1, h2⟩), h3]; rfl⟩
  · exact Or.inr ⟨h3, h2, by unfold degR; rw [if_neg (show ¬ okDeg s from h1)]⟩
def numR (l : List UInt8) (a b : Nat) : Option Int := if a ≤ l.length ∧ l.length ≤ b ∧ Gp.allD l then some (Gp.numL l) else none
def sigR (l : List UInt8) : Option Int := if l.head? = some 48 then none else numR l 1 11
/-- The magnitude of what stands before and behind a point. -/
def magC (mn : Bool) (c : List UInt8 × List UInt8 × Bool) : Option Int :=
  (numR c.1 1 2).bind fun a => ((if c.2.2 = true then (numR c.2.1 1 2).map fun k => 100 * a + (if c.2.1.length = 1 then 10 * k else k) else some (100 * a)).bind fun n =>
    if n ≤ 3000 ∧ (0 < n ∨ mn = false) then some (if mn = true then -n else n) else none)
/-- The magnitude of a text that is not empty. -/
def magR (l : List UInt8) : Option Int := magC (l.head? == some 45) (Lib.cut (if (l.head? == some 45) = true then l.tail else l) [46])
def turnI : Int := 1296000000000
/-- What the field of a column makes of an observation. -/
def readF (k : Nat) (s : ByteArray) (o : Ob) : Option Ob :=
  if k = 0 then some { o with name := s } else if k = 1 then some { o with site := s } else if k = 2 then (timeR s).map fun t => { o with t := t } else
  if k = 3 then (degR s).bind fun a => if 0 ≤ a then some { o with ra := a % turnI } else none else if k = 4 then (degR s).map fun a => { o with dec := a } else
  if k = 5 then (if s.size = 0 then some o else (sigR s.data.toList).map fun n => { o with sg := n }) else
  if k = 6 then (if s.size = 0 then some o else (magR s.data.toList).map fun n => { o with mag := n }) else
  (if s.size = 0 then some o else if s.size = 1 then some { o with band := bt s 0 } else none)
def baseO : Ob := ⟨ByteArray.empty, ByteArray.empty, 0, 0, 0, 1000000, 9999, 32⟩
/-- Fields, one behind another. -/
def foldR (l : List (Nat × ByteArray)) (o : Ob) : Option Ob := l.foldl (fun x p => x.bind (readF p.1 p.2)) (some o)
theorem foldl_none (l : List (Nat × ByteArray)) : l.foldl (fun x p => x.bind (readF p.1 p.2)) (none : Option Ob) = none := by
  induction l with
  | nil => rfl
  | cons a l ih => exact ih
theorem foldR_cons (p : Nat × ByteArray) (l : List (Nat × ByteArray)) (o : Ob) : foldR (p :: l) o = (readF p.1 p.2 o).bind (foldR l) := by
  unfold foldR
  rw [List.foldl_cons]
  show List.foldl _ (readF p.1 p.2 o) l = _
  cases readF p.1 p.2 o with
  | none => exact foldl_none l
  | some o' => rfl
theorem foldR_snoc (l : List (Nat × ByteArray)) (p : Nat × ByteArray) (o : Ob) : foldR (l ++ [p]) o = (foldR l o).bind (readF p.1 p.2) := by
  unfold foldR
  rw [List.foldl_append]
  rfl
def okR (o : Ob) : Option Ob := if okO o then some o else none
/-- What a row is read as. -/
def rowR (order : List Nat) (cells : List ByteArray) : Option Ob := if order.length = cells.length then (foldR (order.zip cells) baseO).bind okR else none

/-! ### Fields -/
def magF (m : Int) : List UInt8 := if m = 9999 then [] else magB m
def bandF (b : Int) : List UInt8 := if b = 32 then [] else [UInt8.ofNat b.toNat]
def stL (l : List UInt8) : ByteArray := ⟨l.toArray⟩
theorem stL_L (l : List UInt8) : (stL l).data.toList = l := rfl
theorem stL_size (l : List UInt8) : (stL l).size = l.length := by simp [stL, ByteArray.size]
/-- The fields of an observation; the time's is told apart. -/
def fieldL (o : Ob) (T : ByteArray) : List ByteArray := [o.name, o.site, T, stL (Gt.degL o.ra 9), stL (Gt.degL o.dec 9), stL (Lib.itoa o.sg), stL (magF o.mag), stL (bandF o.band)]
def roundP (o : Ob) : Ob := { o with ra := dgR o.ra % turnI, dec := dgR o.dec }
theorem dd_ne (u : Nat) : Lib.decDigits u ≠ [] := by
  unfold Lib.decDigits
  split <;> simp
theorem dd_first : ∀ (n u : Nat), u ≤ n → 0 < u → (Lib.decDigits u).head? ≠ some 48
  | 0, u, h, h0 => by omega
  | n + 1, u, h, h0 => by
    unfold Lib.decDigits
    split
    · rename_i g
      intro e
      have e2 : UInt8.ofNat (48 + u) = 48 := Option.some.inj e
      have := congrArg UInt8.toNat e2
      rw [UInt8.toNat_ofNat'] at this
      have e3 : (48 : UInt8).toNat = 48 := rfl
      rw [e3] at this
      omega
    · have ih := dd_first n (u / 10) (by omega) (by omega)
      rw [List.head?_append]
      cases hd : (Lib.decDigits (u / 10)).head? with
      | none =>
        have e := List.head?_eq_none_iff.1 hd
        have := dd_ne (u / 10)
        exact absurd e this
      | some x =>
        rw [hd] at ih
        exact ih
theorem dd_len : ∀ (k u : Nat), u < 10 ^ (k + 1) → (Lib.decDigits u).length ≤ k + 1
  | 0, u, h => by
    unfold Lib.decDigits
    rw [dif_pos (by omega)]
    simp
  | k + 1, u, h => by
    unfold Lib.decDigits
    split
    · simp
    · have := dd_len k (u / 10) (by rw [Nat.pow_succ] at h; omega)
      rw [List.length_append]
      simp only [List.length_cons, List.length_nil]
      omega
theorem itoa_pos (n : Nat) : Lib.itoa (n : Int) = Lib.decDigits n := by unfold Lib.itoa; rw [if_neg (by omega), Int.toNat_natCast]
theorem read_sig {n : Int} (h0 : 1 ≤ n) (h1 : n ≤ 10000000000) : sigR (Lib.itoa n) = some n ∧ 0 < (Lib.itoa n).length := by
  obtain ⟨m, rfl⟩ := Int.eq_ofNat_of_zero_le (show 0 ≤ n by omega)
  have hd := dd_first m m (Nat.le_refl _) (by omega)
  have hn := Gt.itoa_num m
  have hl := dd_len 10 m (by omega)
  rw [itoa_pos] at hn ⊢
  have ne := dd_ne m
  have p : 0 < (Lib.decDigits m).length := List.length_pos_iff.2 ne
  unfold sigR numR
  rw [if_neg hd, if_pos ⟨by omega, hl, hn.2⟩, hn.1]
  exact ⟨rfl, p⟩
end Vp
end Go.Proofs.YtaghilgfldaaiaaGreatDoor
/-
  need and number of psv: what they return, and what they raise.
-/
namespace Go.Proofs.YtaghilgfldaaiaaGreatDoor
namespace Vw
open Go.RowKit Lw Go.Proofs.YtaghilgfldaaiaaGreatDoor.Ap Go.Proofs.YtaghilgfldaaiaaGreatDoor.Vp Go.Proofs.YtaghilgfldaaiaaGreatDoor.Op Go.Proofs.YtaghilgfldaaiaaGreatDoor.Ow

/-- What a table that cannot be read raises. -/
def malP : List PanicEntry := [{ v := .iface 84 (.agg #[]), recovered := false }]
set_option maxHeartbeats 1000000 in
theorem need_yes (w : World) : Calls Tryz.prog 48 #[.bool true] w fun e w' => e = .returned (.tuple #[]) ∧ w = w' := by
  go_enter Tryz.func48, Tryz.ntmps48
  go_wp2_with fail
  first
    | (go_end0; exact ⟨rfl, rfl⟩)
    | go_end0
    | (go_ret; exact ⟨rfl, rfl⟩)
set_option maxHeartbeats 1000000 in
theorem need_no (w : World) : Calls Tryz.prog 48 #[.bool false] w fun e w' => e = .panicked malP ∧ w = w' := by
  go_enter Tryz.func48, Tryz.ntmps48
  go_wp2_with fail
  exact ⟨rfl, rfl, rfl⟩
theorem num_bd {l : List UInt8} (h : Gp.allD l) (k : Nat) (hk : l.length ≤ k) (h11 : k ≤ 11) : 0 ≤ Gp.numL l ∧ Gp.numL l < 100000000000 := by
  have b := Gp.numV_bd l
  unfold Gp.numV at b
  rw [if_pos h] at b
  have t : ∀ m : Nat, m ≤ 11 → (10 : Int) ^ m ≤ 100000000000 := by decide
  have := t l.length (by omega)
  have n0 : ∀ l : List UInt8, Gp.allD l → 0 ≤ Gp.numL l := fun l h => by
    have e : ∀ (l : List UInt8) (a : Int), 0 ≤ a → (∀ c ∈ l, 48 ≤ (c.toNat : Int)) → 0 ≤ l.foldl (fun n c => 10 * n + ((c.toNat : Int) - 48)) a := fun l => by
      induction l with
      | nil => exact fun a ha _ => ha
      | cons c l ih => exact fun a ha hc => ih _ (by have := hc c (by simp); show 0 ≤ 10 * a + ((c.toNat : Int) - 48); omega) (fun x hx => hc x (by simp [hx]))
    exact e l 0 (by omega) (fun c hc => (h c hc).1)
  exact ⟨n0 l h, by omega⟩
def NumrPost (s : ByteArray) (a b : Nat) (w : World) (e : Ending) (w' : World) : Prop := ((∃ n, numR s.data.toList a b = some n ∧ 0 ≤ n ∧ n < 100000000000 ∧ e = .returned (.int .i64 n)) ∨ (numR s.data.toList a b = none ∧ e = .panicked malP)) ∧ Below w.heap.size w w'
set_option maxRecDepth 100000 in
set_option maxHeartbeats 4000000 in
theorem numr_any (s : ByteArray) (a b : Nat) (w : World) (hs : s.size ≤ maxLen) (hb : b ≤ 11) :
    Calls Tryz.prog 131 #[.string s, .int .i64 (a : Int), .int .i64 (b : Int)] w (NumrPost s a b w) := by
  have zl : s.data.toList.length = s.size := rfl
  unfold maxLen at hs
  by_cases h1 : a ≤ s.size
  · have i1 : (a : Int) ≤ (s.size : Int) := by omega
    by_cases h2 : s.size ≤ b
    · have i2 : (s.size : Int) ≤ (b : Int) := by omega
      have NX := Lib.hid (fun (k : Nat) (h : Gp.allD (s.data.toList.take k)) => num_bd h 11 (by rw [List.length_take]; omega) (by omega))
      have FIN := Lib.hid (fun (h : Gp.allD (s.data.toList.take s.size)) => show numR s.data.toList a b = some (Gp.numL (s.data.toList.take s.size)) from by
        rw [List.take_of_length_le (by omega)] at h ⊢
        unfold numR
        rw [if_pos ⟨by omega, by omega, h⟩])
      have NO := Lib.hid (fun (h : ¬ Gp.allD s.data.toList) => show numR s.data.toList a b = none from by
        unfold numR
        rw [if_neg (fun g => h g.2.2)])
      go_enter Tryz.func131, Tryz.ntmps131
      go_wp2_with fail
      refine (need_yes _).mono ?_
      rintro e w1 ⟨rfl, rfl⟩
      go_wp2_with fail
      go_loopw [7] (fun n w' => ∃ k : Nat, k ≤ s.size ∧ w' = w.iter s k ∧ n = .int .i64 (Gp.numL (s.data.toList.take k)) ∧ Hid (Gp.allD (s.data.toList.take k))) (fun _ w' => s.size - w'.iterPos w.heap.size)
      case atStart => exact ⟨0, Nat.zero_le _, rfl, rfl, Lib.hid (by intro c hc; simp at hc)⟩
      case round =>
        obtain ⟨k, hk, rfl, rfl, D⟩ := hrel
        obtain ⟨n0, n1⟩ := NX.out k D.out
        by_cases hlt : k < s.size
        · have hnx : ∀ ty, (Instr.next (.pointer (some ⟨w.heap.size, 0, none⟩)) true ty).run Tryz.prog (w.iter s k) = _ := fun ty => run_next_any w s k ty hlt
          have bb := byte_bd s[k]
          rcases rune_word hlt with hr | ⟨d, r1, r2⟩
          · rw [hr] at hnx
            have hm : (s[k]'hlt) ∈ s.data.toList := by
              have : (s[k]'hlt) = s.data.toList[k]'(by omega) := rfl
              rw [this]
              exact List.getElem_mem _
            by_cases c1 : 48 ≤ (s[k].toNat : Int)
            · by_cases c2 : (s[k].toNat : Int) ≤ 57
              · have e1 : Gp.numL (s.data.toList.take (k + 1)) = 10 * Gp.numL (s.data.toList.take k) + ((s[k].toNat : Int) - 48) := by rw [take_snoc s k hlt, Gp.numL_snoc]
                have D2 := Lib.hid (show Gp.allD (s.data.toList.take (k + 1)) by rw [take_snoc s k hlt]; exact Gp.allD_snoc D.out c1 c2)
                obtain ⟨m0, m1⟩ := NX.out (k + 1) D2.out
                rw [e1] at m0 m1
                have E1 := Lib.hid e1
                clear e1 FIN NO hm
                generalize Gp.numL (s.data.toList.take k) = N at *
                go_wp2_with fail
                refine (need_yes _).mono ?_
                rintro e w1 ⟨rfl, rfl⟩
                go_wp2_with fail
                go_roundw
                case rel => exact ⟨k + 1, by omega, rfl, by rw [E1.out], D2⟩
                case measure => simp; omega
              · have N := Lib.hid (NO.out (fun h => c2 (h _ hm).2))
                clear FIN NO hm
                generalize Gp.numL (s.data.toList.take k) = NN at *
                go_wp2_with fail
                refine (need_no _).mono ?_
                rintro e w1 ⟨rfl, rfl⟩
                exact ⟨rfl, Or.inr ⟨N.out, rfl⟩, Gp.below_iter w s _⟩
            · have N := Lib.hid (NO.out (fun h => c1 (h _ hm).1))
              clear FIN NO hm
              generalize Gp.numL (s.data.toList.take k) = NN at *
              go_wp2_with fail
              refine (need_no _).mono ?_
              rintro e w1 ⟨rfl, rfl⟩
              exact ⟨rfl, Or.inr ⟨N.out, rfl⟩, Gp.below_iter w s _⟩
          · have hm : (s[k]'hlt) ∈ s.data.toList := by
              have : (s[k]'hlt) = s.data.toList[k]'(by omega) := rfl
              rw [this]
              exact List.getElem_mem _
            have N := Lib.hid (NO.out (fun h => d (Or.inl ⟨(h _ hm).1, (h _ hm).2⟩)))
            clear d FIN NO hm
            generalize (Utf8.decode s k).1 = r at *
            generalize Gp.numL (s.data.toList.take k) = NN at *
            have c1 : (48 : Int) ≤ (r : Int) := by omega
            have c2 : ¬ (r : Int) ≤ 57 := by omega
            go_wp2_with fail
            refine (need_no _).mono ?_
            rintro e w1 ⟨rfl, rfl⟩
            exact ⟨rfl, Or.inr ⟨N.out, rfl⟩, Gp.below_iter w s _⟩
        · obtain rfl : k = s.size := by omega
          have hnx : ∀ ty, (Instr.next (.pointer (some ⟨w.heap.size, 0, none⟩)) true ty).run Tryz.prog (w.iter s s.size) = _ := fun ty => run_next_end w s s.size ty hlt
          have F := Lib.hid (FIN.out D.out)
          clear FIN NO NX
          generalize Gp.numL (s.data.toList.take s.size) = NN at *
          go_wp2_with fail
          go_ret
          exact ⟨Or.inl ⟨NN, F.out, n0, n1, rfl⟩, Gp.below_iter w s _⟩
    · have i2 : ¬ (s.size : Int) ≤ (b : Int) := by omega
      have N := Lib.hid (show numR s.data.toList a b = none from by unfold numR; rw [if_neg (fun g => h2 (by omega))])
      go_enter Tryz.func131, Tryz.ntmps131
      go_wp2_with fail
      refine (need_no _).mono ?_
      rintro e w1 ⟨rfl, rfl⟩
      exact ⟨rfl, Or.inr ⟨N.out, rfl⟩, Below.refl _ _⟩
  · have i1 : ¬ (a : Int) ≤ (s.size : Int) := by omega
    have N := Lib.hid (show numR s.data.toList a b = none from by unfold numR; rw [if_neg (fun g => h1 (by omega))])
    go_enter Tryz.func131, Tryz.ntmps131
    go_wp2_with fail
    refine (need_no _).mono ?_
    rintro e w1 ⟨rfl, rfl⟩
    exact ⟨rfl, Or.inr ⟨N.out, rfl⟩, Below.refl _ _⟩
end Vw
end Go.Proofs.YtaghilgfldaaiaaGreatDoor
