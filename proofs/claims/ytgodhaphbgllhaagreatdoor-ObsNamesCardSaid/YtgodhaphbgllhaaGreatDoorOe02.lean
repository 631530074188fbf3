/-
  Lemmas and walks, texts joined: OCmpW3, OAllPl2, ONCut, OStepPl, OPaAll, OInsPl, Shelf4, OSrt, OSort.
-/
import Derived.Shelf.SlLaysF0
import Derived.Shelf.SlSortCmp.WholeK
import Derived.Shelf.SlSortCmp.NoneTotal
import Derived.Test.YtgodhaphbgllhaaGreatDoorOe01
import Derived.Test.YtgodhaphbgllhaaGreatDoorOb01
import Derived.Test.YtgodhaphbgllhaaGreatDoorOa02
import Derived.Test.YtgodhaphbgllhaaGreatDoorOa03
import Derived.Test.YtgodhaphbgllhaaGreatDoorOa06
import Derived.Test.YtgodhaphbgllhaaGreatDoorProg
set_option linter.unusedSimpArgs false
set_option linter.unusedVariables false
/-
  The walk of Compare of the reference.
-/
namespace Go.Proofs.YtgodhaphbgllhaaGreatDoor
namespace Ow
open Go.RowKit Lw Go.Proofs.YtgodhaphbgllhaaGreatDoor.Ap Go.Proofs.YtgodhaphbgllhaaGreatDoor.Op Go.Proofs.YtgodhaphbgllhaaGreatDoor.Mp Go.Proofs.YtgodhaphbgllhaaGreatDoor.Mw Go.Proofs.YtgodhaphbgllhaaGreatDoor.At Go.Sort

set_option maxRecDepth 100000 in
set_option maxHeartbeats 40000000 in
theorem rcompare_any (x y : Ob) (w : World) (hx : 0 ≤ x.band ∧ x.band ≤ 255) (hy : 0 ≤ y.band ∧ y.band ≤ 255) : Calls Tryz.prog 32 #[obsV x, obsV y] w fun e w' => e = .returned (.int .i64 (cmpO x y)) ∧ Below w.heap.size w w' := by
  have L := Lib.hid (CX.new w x y 23)
  have CC := Lib.hid (fun b (w' : World) (h : w'.rangeAt b 0 (cmpC x y)) => cmpC_cell h)
  have BL := Lib.hid (show ∀ w', CX w w.heap.size x y w' → Below w.heap.size w w' from fun w' h => by
    obtain ⟨m, os, rfl⟩ := h.at_
    exact ⟨rfl, rfl, rfl, by simp [grow], fun k hk => by
      show ((w.drewN m).heap ++ os)[k]? = _
      rw [Array.getElem?_append_left (by exact hk)]; rfl⟩)
  obtain ⟨n0, s0, t0, r0, d0, g0, m0, b0⟩ := x
  obtain ⟨n1, s1, t1, r1, d1, g1, m1, b1⟩ := y
  obtain ⟨x0, x1⟩ := hx
  obtain ⟨y0, y1⟩ := hy
  simp only at x0 x1 y0 y1
  obtain ⟨cl, hcl⟩ : ∃ cl, cmpL ⟨n0, s0, t0, r0, d0, g0, m0, b0⟩ ⟨n1, s1, t1, r1, d1, g1, m1, b1⟩ = cl := ⟨_, rfl⟩
  have z8 : cl.length = 8 := by rw [← hcl]; rfl
  have E8 : Hid (∀ k (hk : k < cl.length), (∀ i (hi : i < cl.length), i < k → cl[i] = 0) → cl[k] ≠ 0 → cmpO ⟨n0, s0, t0, r0, d0, g0, m0, b0⟩ ⟨n1, s1, t1, r1, d1, g1, m1, b1⟩ = cl[k]) := Lib.hid (fun k hk h g => by subst hcl; exact orL_at hk h g)
  have E0 : Hid ((∀ i (hi : i < cl.length), cl[i] = 0) → cmpO ⟨n0, s0, t0, r0, d0, g0, m0, b0⟩ ⟨n1, s1, t1, r1, d1, g1, m1, b1⟩ = 0) := Lib.hid (fun h => by subst hcl; exact orL_zero h)
  clear CC
  have CC := Lib.hid (show ∀ b (w' : World), w'.rangeAt b 0 (cmpC ⟨n0, s0, t0, r0, d0, g0, m0, b0⟩ ⟨n1, s1, t1, r1, d1, g1, m1, b1⟩) → ∀ i (hi : i < cl.length), w'.cell? ⟨b, i, none⟩ = some (.int .i64 (cl[i]'hi)) from fun b w' h => by subst hcl; exact cmpC_cell h)
  clear hcl
  generalize cmpO ⟨n0, s0, t0, r0, d0, g0, m0, b0⟩ ⟨n1, s1, t1, r1, d1, g1, m1, b1⟩ = K at *
  have wx : IntKind.i64.wrap b0 = b0 := wrap_small _ (by omega) (by omega)
  have wy : IntKind.i64.wrap b1 = b1 := wrap_small _ (by omega) (by omega)
  go_enter Tryz.func32, Tryz.ntmps32
  go_wp2_with fail
  refine wp_region_held_drew (S := CX w w.heap.size ⟨n0, s0, t0, r0, d0, g0, m0, b0⟩ ⟨n1, s1, t1, r1, d1, g1, m1, b1⟩) (by kernel_rfl) L.out.drew (fun hHeld => ?_)
  clear L
  refine wpAnyH_take (i := 0) (oi := ?oi0x34) (v := ?v0x34) ?hi0x34 (by kernel_rfl) (by kernel_rfl) (by kernel_rfl) ?hq0x34 ?hy0x34 hHeld ?rest0x34
  case hi0x34 => ((try simp only [List.getElem?_toArray, List.getElem?_cons_succ, List.getElem?_cons_zero]); (try rfl))
  case hq0x34 => exact fun _ _ _ h => h
  case hy0x34 => exact Or.inl ⟨by rfl, by intro w hSw; clear hSw; go_simp; try with_reducible rfl⟩
  try simp only [Act.put, List.setIfInBounds_toArray, List.set_cons_zero, List.set_cons_succ]
  refine wpAnyH_take (i := 1) (oi := ?oi1x35) (v := ?v1x35) ?hi1x35 (by kernel_rfl) (by kernel_rfl) (by kernel_rfl) ?hq1x35 ?hy1x35 hHeld ?rest1x35
  case hi1x35 => ((try simp only [List.getElem?_toArray, List.getElem?_cons_succ, List.getElem?_cons_zero]); (try rfl))
  case hq1x35 => exact fun _ _ _ h => h
  case hy1x35 => exact Or.inl ⟨by rfl, by intro w hSw; have q := (CX.rx hSw) 2 _ rfl; clear hSw; simp only [Nat.zero_add] at q; go_simp; try with_reducible rfl⟩
  try simp only [Act.put, List.setIfInBounds_toArray, List.set_cons_zero, List.set_cons_succ]
  refine wpAnyH_take (i := 2) (oi := ?oi2x36) (v := ?v2x36) ?hi2x36 (by kernel_rfl) (by kernel_rfl) (by kernel_rfl) ?hq2x36 ?hy2x36 hHeld ?rest2x36
  case hi2x36 => ((try simp only [List.getElem?_toArray, List.getElem?_cons_succ, List.getElem?_cons_zero]); (try rfl))
  case hq2x36 => exact fun _ _ _ h => h
  case hy2x36 => exact Or.inl ⟨by rfl, by intro w hSw; clear hSw; go_simp; try with_reducible rfl⟩
  try simp only [Act.put, List.setIfInBounds_toArray, List.set_cons_zero, List.set_cons_succ]
  refine wpAnyH_take (i := 3) (oi := ?oi3x37) (v := ?v3x37) ?hi3x37 (by kernel_rfl) (by kernel_rfl) (by kernel_rfl) ?hq3x37 ?hy3x37 hHeld ?rest3x37
  case hi3x37 => ((try simp only [List.getElem?_toArray, List.getElem?_cons_succ, List.getElem?_cons_zero]); (try rfl))
  case hq3x37 => exact fun _ _ _ h => h
  case hy3x37 => exact Or.inl ⟨by rfl, by intro w hSw; have q := (CX.ry hSw) 2 _ rfl; clear hSw; simp only [Nat.zero_add] at q; go_simp; try with_reducible rfl⟩
  try simp only [Act.put, List.setIfInBounds_toArray, List.set_cons_zero, List.set_cons_succ]
  refine wpAnyH_take (i := 5) (oi := ?oi5x38) (v := ?v5x38) ?hi5x38 (by kernel_rfl) (by kernel_rfl) (by kernel_rfl) ?hq5x38 ?hy5x38 hHeld ?rest5x38
  case hi5x38 => ((try simp only [List.getElem?_toArray, List.getElem?_cons_succ, List.getElem?_cons_zero]); (try rfl))
  case hq5x38 => exact fun _ _ _ h => h
  case hy5x38 => exact Or.inl ⟨by rfl, by intro w hSw; clear hSw; go_simp; try with_reducible rfl⟩
  try simp only [Act.put, List.setIfInBounds_toArray, List.set_cons_zero, List.set_cons_succ]
  refine wpAnyH_take (i := 6) (oi := ?oi6x39) (v := ?v6x39) ?hi6x39 (by kernel_rfl) (by kernel_rfl) (by kernel_rfl) ?hq6x39 ?hy6x39 hHeld ?rest6x39
  case hi6x39 => ((try simp only [List.getElem?_toArray, List.getElem?_cons_succ, List.getElem?_cons_zero]); (try rfl))
  case hq6x39 => exact fun _ _ _ h => h
  case hy6x39 => exact Or.inl ⟨by rfl, by intro w hSw; have q := (CX.rx hSw) 1 _ rfl; clear hSw; simp only [Nat.zero_add] at q; go_simp; try with_reducible rfl⟩
  try simp only [Act.put, List.setIfInBounds_toArray, List.set_cons_zero, List.set_cons_succ]
  refine wpAnyH_take (i := 7) (oi := ?oi7x40) (v := ?v7x40) ?hi7x40 (by kernel_rfl) (by kernel_rfl) (by kernel_rfl) ?hq7x40 ?hy7x40 hHeld ?rest7x40
  case hi7x40 => ((try simp only [List.getElem?_toArray, List.getElem?_cons_succ, List.getElem?_cons_zero]); (try rfl))
  case hq7x40 => exact fun _ _ _ h => h
  case hy7x40 => exact Or.inl ⟨by rfl, by intro w hSw; clear hSw; go_simp; try with_reducible rfl⟩
  try simp only [Act.put, List.setIfInBounds_toArray, List.set_cons_zero, List.set_cons_succ]
  refine wpAnyH_take (i := 8) (oi := ?oi8x41) (v := ?v8x41) ?hi8x41 (by kernel_rfl) (by kernel_rfl) (by kernel_rfl) ?hq8x41 ?hy8x41 hHeld ?rest8x41
  case hi8x41 => ((try simp only [List.getElem?_toArray, List.getElem?_cons_succ, List.getElem?_cons_zero]); (try rfl))
  case hq8x41 => exact fun _ _ _ h => h
  case hy8x41 => exact Or.inl ⟨by rfl, by intro w hSw; have q := (CX.ry hSw) 1 _ rfl; clear hSw; simp only [Nat.zero_add] at q; go_simp; try with_reducible rfl⟩
  try simp only [Act.put, List.setIfInBounds_toArray, List.set_cons_zero, List.set_cons_succ]
  refine wpAnyH_take (i := 10) (oi := ?oi10x42) (v := ?v10x42) ?hi10x42 (by kernel_rfl) (by kernel_rfl) (by kernel_rfl) ?hq10x42 ?hy10x42 hHeld ?rest10x42
  case hi10x42 => ((try simp only [List.getElem?_toArray, List.getElem?_cons_succ, List.getElem?_cons_zero]); (try rfl))
  case hq10x42 => exact fun _ _ _ h => h
  case hy10x42 => exact Or.inl ⟨by rfl, by intro w hSw; clear hSw; go_simp; try with_reducible rfl⟩
  try simp only [Act.put, List.setIfInBounds_toArray, List.set_cons_zero, List.set_cons_succ]
  refine wpAnyH_take (i := 11) (oi := ?oi11x43) (v := ?v11x43) ?hi11x43 (by kernel_rfl) (by kernel_rfl) (by kernel_rfl) ?hq11x43 ?hy11x43 hHeld ?rest11x43
  case hi11x43 => ((try simp only [List.getElem?_toArray, List.getElem?_cons_succ, List.getElem?_cons_zero]); (try rfl))
  case hq11x43 => exact fun _ _ _ h => h
  case hy11x43 => exact Or.inl ⟨by rfl, by intro w hSw; have q := (CX.rx hSw) 0 _ rfl; clear hSw; simp only [Nat.zero_add] at q; go_simp; try with_reducible rfl⟩
  try simp only [Act.put, List.setIfInBounds_toArray, List.set_cons_zero, List.set_cons_succ]
  refine wpAnyH_take (i := 12) (oi := ?oi12x44) (v := ?v12x44) ?hi12x44 (by kernel_rfl) (by kernel_rfl) (by kernel_rfl) ?hq12x44 ?hy12x44 hHeld ?rest12x44
  case hi12x44 => ((try simp only [List.getElem?_toArray, List.getElem?_cons_succ, List.getElem?_cons_zero]); (try rfl))
  case hq12x44 => exact fun _ _ _ h => h
  case hy12x44 => exact Or.inl ⟨by rfl, by intro w hSw; clear hSw; go_simp; try with_reducible rfl⟩
  try simp only [Act.put, List.setIfInBounds_toArray, List.set_cons_zero, List.set_cons_succ]
  refine wpAnyH_take (i := 13) (oi := ?oi13x45) (v := ?v13x45) ?hi13x45 (by kernel_rfl) (by kernel_rfl) (by kernel_rfl) ?hq13x45 ?hy13x45 hHeld ?rest13x45
  case hi13x45 => ((try simp only [List.getElem?_toArray, List.getElem?_cons_succ, List.getElem?_cons_zero]); (try rfl))
  case hq13x45 => exact fun _ _ _ h => h
  case hy13x45 => exact Or.inl ⟨by rfl, by intro w hSw; have q := (CX.ry hSw) 0 _ rfl; clear hSw; simp only [Nat.zero_add] at q; go_simp; try with_reducible rfl⟩
  try simp only [Act.put, List.setIfInBounds_toArray, List.set_cons_zero, List.set_cons_succ]
  refine wpAnyH_take (i := 15) (oi := ?oi15x46) (v := ?v15x46) ?hi15x46 (by kernel_rfl) (by kernel_rfl) (by kernel_rfl) ?hq15x46 ?hy15x46 hHeld ?rest15x46
  case hi15x46 => ((try simp only [List.getElem?_toArray, List.getElem?_cons_succ, List.getElem?_cons_zero]); (try rfl))
  case hq15x46 => exact fun _ _ _ h => h
  case hy15x46 => exact Or.inl ⟨by rfl, by intro w hSw; clear hSw; go_simp; try with_reducible rfl⟩
  try simp only [Act.put, List.setIfInBounds_toArray, List.set_cons_zero, List.set_cons_succ]
  refine wpAnyH_take (i := 16) (oi := ?oi16x47) (v := ?v16x47) ?hi16x47 (by kernel_rfl) (by kernel_rfl) (by kernel_rfl) ?hq16x47 ?hy16x47 hHeld ?rest16x47
  case hi16x47 => ((try simp only [List.getElem?_toArray, List.getElem?_cons_succ, List.getElem?_cons_zero]); (try rfl))
  case hq16x47 => exact fun _ _ _ h => h
  case hy16x47 => exact Or.inl ⟨by rfl, by intro w hSw; have q := (CX.rx hSw) 3 _ rfl; clear hSw; simp only [Nat.zero_add] at q; go_simp; try with_reducible rfl⟩
  try simp only [Act.put, List.setIfInBounds_toArray, List.set_cons_zero, List.set_cons_succ]
  refine wpAnyH_take (i := 17) (oi := ?oi17x48) (v := ?v17x48) ?hi17x48 (by kernel_rfl) (by kernel_rfl) (by kernel_rfl) ?hq17x48 ?hy17x48 hHeld ?rest17x48
  case hi17x48 => ((try simp only [List.getElem?_toArray, List.getElem?_cons_succ, List.getElem?_cons_zero]); (try rfl))
  case hq17x48 => exact fun _ _ _ h => h
  case hy17x48 => exact Or.inl ⟨by rfl, by intro w hSw; clear hSw; go_simp; try with_reducible rfl⟩
  try simp only [Act.put, List.setIfInBounds_toArray, List.set_cons_zero, List.set_cons_succ]
  refine wpAnyH_take (i := 18) (oi := ?oi18x49) (v := ?v18x49) ?hi18x49 (by kernel_rfl) (by kernel_rfl) (by kernel_rfl) ?hq18x49 ?hy18x49 hHeld ?rest18x49
  case hi18x49 => ((try simp only [List.getElem?_toArray, List.getElem?_cons_succ, List.getElem?_cons_zero]); (try rfl))
  case hq18x49 => exact fun _ _ _ h => h
  case hy18x49 => exact Or.inl ⟨by rfl, by intro w hSw; have q := (CX.ry hSw) 3 _ rfl; clear hSw; simp only [Nat.zero_add] at q; go_simp; try with_reducible rfl⟩
  try simp only [Act.put, List.setIfInBounds_toArray, List.set_cons_zero, List.set_cons_succ]
  refine wpAnyH_take (i := 20) (oi := ?oi20x50) (v := ?v20x50) ?hi20x50 (by kernel_rfl) (by kernel_rfl) (by kernel_rfl) ?hq20x50 ?hy20x50 hHeld ?rest20x50
  case hi20x50 => ((try simp only [List.getElem?_toArray, List.getElem?_cons_succ, List.getElem?_cons_zero]); (try rfl))
  case hq20x50 => exact fun _ _ _ h => h
  case hy20x50 => exact Or.inl ⟨by rfl, by intro w hSw; clear hSw; go_simp; try with_reducible rfl⟩
  try simp only [Act.put, List.setIfInBounds_toArray, List.set_cons_zero, List.set_cons_succ]
  refine wpAnyH_take (i := 21) (oi := ?oi21x51) (v := ?v21x51) ?hi21x51 (by kernel_rfl) (by kernel_rfl) (by kernel_rfl) ?hq21x51 ?hy21x51 hHeld ?rest21x51
  case hi21x51 => ((try simp only [List.getElem?_toArray, List.getElem?_cons_succ, List.getElem?_cons_zero]); (try rfl))
  case hq21x51 => exact fun _ _ _ h => h
  case hy21x51 => exact Or.inl ⟨by rfl, by intro w hSw; have q := (CX.rx hSw) 4 _ rfl; clear hSw; simp only [Nat.zero_add] at q; go_simp; try with_reducible rfl⟩
  try simp only [Act.put, List.setIfInBounds_toArray, List.set_cons_zero, List.set_cons_succ]
  refine wpAnyH_take (i := 22) (oi := ?oi22x52) (v := ?v22x52) ?hi22x52 (by kernel_rfl) (by kernel_rfl) (by kernel_rfl) ?hq22x52 ?hy22x52 hHeld ?rest22x52
  case hi22x52 => ((try simp only [List.getElem?_toArray, List.getElem?_cons_succ, List.getElem?_cons_zero]); (try rfl))
  case hq22x52 => exact fun _ _ _ h => h
  case hy22x52 => exact Or.inl ⟨by rfl, by intro w hSw; clear hSw; go_simp; try with_reducible rfl⟩
  try simp only [Act.put, List.setIfInBounds_toArray, List.set_cons_zero, List.set_cons_succ]
  refine wpAnyH_take (i := 23) (oi := ?oi23x53) (v := ?v23x53) ?hi23x53 (by kernel_rfl) (by kernel_rfl) (by kernel_rfl) ?hq23x53 ?hy23x53 hHeld ?rest23x53
  case hi23x53 => ((try simp only [List.getElem?_toArray, List.getElem?_cons_succ, List.getElem?_cons_zero]); (try rfl))
  case hq23x53 => exact fun _ _ _ h => h
  case hy23x53 => exact Or.inl ⟨by rfl, by intro w hSw; have q := (CX.ry hSw) 4 _ rfl; clear hSw; simp only [Nat.zero_add] at q; go_simp; try with_reducible rfl⟩
  try simp only [Act.put, List.setIfInBounds_toArray, List.set_cons_zero, List.set_cons_succ]
  refine wpAnyH_take (i := 25) (oi := ?oi25x54) (v := ?v25x54) ?hi25x54 (by kernel_rfl) (by kernel_rfl) (by kernel_rfl) ?hq25x54 ?hy25x54 hHeld ?rest25x54
  case hi25x54 => ((try simp only [List.getElem?_toArray, List.getElem?_cons_succ, List.getElem?_cons_zero]); (try rfl))
  case hq25x54 => exact fun _ _ _ h => h
  case hy25x54 => exact Or.inl ⟨by rfl, by intro w hSw; clear hSw; go_simp; try with_reducible rfl⟩
  try simp only [Act.put, List.setIfInBounds_toArray, List.set_cons_zero, List.set_cons_succ]
  refine wpAnyH_take (i := 26) (oi := ?oi26x55) (v := ?v26x55) ?hi26x55 (by kernel_rfl) (by kernel_rfl) (by kernel_rfl) ?hq26x55 ?hy26x55 hHeld ?rest26x55
  case hi26x55 => ((try simp only [List.getElem?_toArray, List.getElem?_cons_succ, List.getElem?_cons_zero]); (try rfl))
  case hq26x55 => exact fun _ _ _ h => h
  case hy26x55 => exact Or.inl ⟨by rfl, by intro w hSw; have q := (CX.rx hSw) 5 _ rfl; clear hSw; simp only [Nat.zero_add] at q; go_simp; try with_reducible rfl⟩
  try simp only [Act.put, List.setIfInBounds_toArray, List.set_cons_zero, List.set_cons_succ]
  refine wpAnyH_take (i := 27) (oi := ?oi27x56) (v := ?v27x56) ?hi27x56 (by kernel_rfl) (by kernel_rfl) (by kernel_rfl) ?hq27x56 ?hy27x56 hHeld ?rest27x56
  case hi27x56 => ((try simp only [List.getElem?_toArray, List.getElem?_cons_succ, List.getElem?_cons_zero]); (try rfl))
  case hq27x56 => exact fun _ _ _ h => h
  case hy27x56 => exact Or.inl ⟨by rfl, by intro w hSw; clear hSw; go_simp; try with_reducible rfl⟩
  try simp only [Act.put, List.setIfInBounds_toArray, List.set_cons_zero, List.set_cons_succ]
  refine wpAnyH_take (i := 28) (oi := ?oi28x57) (v := ?v28x57) ?hi28x57 (by kernel_rfl) (by kernel_rfl) (by kernel_rfl) ?hq28x57 ?hy28x57 hHeld ?rest28x57
  case hi28x57 => ((try simp only [List.getElem?_toArray, List.getElem?_cons_succ, List.getElem?_cons_zero]); (try rfl))
  case hq28x57 => exact fun _ _ _ h => h
  case hy28x57 => exact Or.inl ⟨by rfl, by intro w hSw; have q := (CX.ry hSw) 5 _ rfl; clear hSw; simp only [Nat.zero_add] at q; go_simp; try with_reducible rfl⟩
  try simp only [Act.put, List.setIfInBounds_toArray, List.set_cons_zero, List.set_cons_succ]
  refine wpAnyH_take (i := 30) (oi := ?oi30x58) (v := ?v30x58) ?hi30x58 (by kernel_rfl) (by kernel_rfl) (by kernel_rfl) ?hq30x58 ?hy30x58 hHeld ?rest30x58
  case hi30x58 => ((try simp only [List.getElem?_toArray, List.getElem?_cons_succ, List.getElem?_cons_zero]); (try rfl))
  case hq30x58 => exact fun _ _ _ h => h
  case hy30x58 => exact Or.inl ⟨by rfl, by intro w hSw; clear hSw; go_simp; try with_reducible rfl⟩
  try simp only [Act.put, List.setIfInBounds_toArray, List.set_cons_zero, List.set_cons_succ]
  refine wpAnyH_take (i := 31) (oi := ?oi31x59) (v := ?v31x59) ?hi31x59 (by kernel_rfl) (by kernel_rfl) (by kernel_rfl) ?hq31x59 ?hy31x59 hHeld ?rest31x59
  case hi31x59 => ((try simp only [List.getElem?_toArray, List.getElem?_cons_succ, List.getElem?_cons_zero]); (try rfl))
  case hq31x59 => exact fun _ _ _ h => h
  case hy31x59 => exact Or.inl ⟨by rfl, by intro w hSw; have q := (CX.rx hSw) 6 _ rfl; clear hSw; simp only [Nat.zero_add] at q; go_simp; try with_reducible rfl⟩
  try simp only [Act.put, List.setIfInBounds_toArray, List.set_cons_zero, List.set_cons_succ]
  refine wpAnyH_take (i := 32) (oi := ?oi32x60) (v := ?v32x60) ?hi32x60 (by kernel_rfl) (by kernel_rfl) (by kernel_rfl) ?hq32x60 ?hy32x60 hHeld ?rest32x60
  case hi32x60 => ((try simp only [List.getElem?_toArray, List.getElem?_cons_succ, List.getElem?_cons_zero]); (try rfl))
  case hq32x60 => exact fun _ _ _ h => h
  case hy32x60 => exact Or.inl ⟨by rfl, by intro w hSw; clear hSw; go_simp; try with_reducible rfl⟩
  try simp only [Act.put, List.setIfInBounds_toArray, List.set_cons_zero, List.set_cons_succ]
  refine wpAnyH_take (i := 33) (oi := ?oi33x61) (v := ?v33x61) ?hi33x61 (by kernel_rfl) (by kernel_rfl) (by kernel_rfl) ?hq33x61 ?hy33x61 hHeld ?rest33x61
  case hi33x61 => ((try simp only [List.getElem?_toArray, List.getElem?_cons_succ, List.getElem?_cons_zero]); (try rfl))
  case hq33x61 => exact fun _ _ _ h => h
  case hy33x61 => exact Or.inl ⟨by rfl, by intro w hSw; have q := (CX.ry hSw) 6 _ rfl; clear hSw; simp only [Nat.zero_add] at q; go_simp; try with_reducible rfl⟩
  try simp only [Act.put, List.setIfInBounds_toArray, List.set_cons_zero, List.set_cons_succ]
  refine wpAnyH_take (i := 35) (oi := ?oi35x62) (v := ?v35x62) ?hi35x62 (by kernel_rfl) (by kernel_rfl) (by kernel_rfl) ?hq35x62 ?hy35x62 hHeld ?rest35x62
  case hi35x62 => ((try simp only [List.getElem?_toArray, List.getElem?_cons_succ, List.getElem?_cons_zero]); (try rfl))
  case hq35x62 => exact fun _ _ _ h => h
  case hy35x62 => exact Or.inl ⟨by rfl, by intro w hSw; clear hSw; go_simp; try with_reducible rfl⟩
  try simp only [Act.put, List.setIfInBounds_toArray, List.set_cons_zero, List.set_cons_succ]
  refine wpAnyH_take (i := 36) (oi := ?oi36x63) (v := ?v36x63) ?hi36x63 (by kernel_rfl) (by kernel_rfl) (by kernel_rfl) ?hq36x63 ?hy36x63 hHeld ?rest36x63
  case hi36x63 => ((try simp only [List.getElem?_toArray, List.getElem?_cons_succ, List.getElem?_cons_zero]); (try rfl))
  case hq36x63 => exact fun _ _ _ h => h
  case hy36x63 => exact Or.inl ⟨by rfl, by intro w hSw; have q := (CX.rx hSw) 7 _ rfl; clear hSw; simp only [Nat.zero_add] at q; go_simp; try with_reducible rfl⟩
  try simp only [Act.put, List.setIfInBounds_toArray, List.set_cons_zero, List.set_cons_succ]
  refine wpAnyH_take (i := 37) (oi := ?oi37x64) (v := ?v37x64) ?hi37x64 (by kernel_rfl) (by kernel_rfl) (by kernel_rfl) ?hq37x64 ?hy37x64 hHeld ?rest37x64
  case hi37x64 => ((try simp only [List.getElem?_toArray, List.getElem?_cons_succ, List.getElem?_cons_zero]); (try rfl))
  case hq37x64 => exact fun _ _ _ h => h
  case hy37x64 => exact Or.inl ⟨by rfl, by intro w hSw; clear hSw; go_simp; try with_reducible rfl⟩
  try simp only [Act.put, List.setIfInBounds_toArray, List.set_cons_zero, List.set_cons_succ]
  refine wpAnyH_take (i := 38) (oi := ?oi38x65) (v := ?v38x65) ?hi38x65 (by kernel_rfl) (by kernel_rfl) (by kernel_rfl) ?hq38x65 ?hy38x65 hHeld ?rest38x65
  case hi38x65 => ((try simp only [List.getElem?_toArray, List.getElem?_cons_succ, List.getElem?_cons_zero]); (try rfl))
  case hq38x65 => exact fun _ _ _ h => h
  case hy38x65 => exact Or.inl ⟨by rfl, by intro w hSw; clear hSw; go_simp; try with_reducible rfl⟩
  try simp only [Act.put, List.setIfInBounds_toArray, List.set_cons_zero, List.set_cons_succ]
  refine wpAnyH_take (i := 39) (oi := ?oi39x66) (v := ?v39x66) ?hi39x66 (by kernel_rfl) (by kernel_rfl) (by kernel_rfl) ?hq39x66 ?hy39x66 hHeld ?rest39x66
  case hi39x66 => ((try simp only [List.getElem?_toArray, List.getElem?_cons_succ, List.getElem?_cons_zero]); (try rfl))
  case hq39x66 => exact fun _ _ _ h => h
  case hy39x66 => exact Or.inl ⟨by rfl, by intro w hSw; have q := (CX.ry hSw) 7 _ rfl; clear hSw; simp only [Nat.zero_add] at q; go_simp; try with_reducible rfl⟩
  try simp only [Act.put, List.setIfInBounds_toArray, List.set_cons_zero, List.set_cons_succ]
  refine wpAnyH_take (i := 40) (oi := ?oi40x67) (v := ?v40x67) ?hi40x67 (by kernel_rfl) (by kernel_rfl) (by kernel_rfl) ?hq40x67 ?hy40x67 hHeld ?rest40x67
  case hi40x67 => ((try simp only [List.getElem?_toArray, List.getElem?_cons_succ, List.getElem?_cons_zero]); (try rfl))
  case hq40x67 => exact fun _ _ _ h => h
  case hy40x67 => exact Or.inl ⟨by rfl, by intro w hSw; clear hSw; go_simp; try with_reducible rfl⟩
  try simp only [Act.put, List.setIfInBounds_toArray, List.set_cons_zero, List.set_cons_succ]
  refine wpAnyH_ready (rs := [4]) (by kernel_rfl) (by simp) ?_
  refine AllReadyH.cons rfl (fun K' hK => ?_) AllReadyH.nil
  have H1 := Lib.hid hHeld
  clear hHeld
  go_simp
  refine (number_any _ _ _).mono ?_
  rintro e w9 ⟨rfl, rfl⟩
  refine hK.out _ _ H1.out (fun hHeld => ?_)
  clear hK H1
  try simp only [Act.put, List.setIfInBounds_toArray, List.set_cons_zero, List.set_cons_succ]
  refine wpAnyH_ready (rs := [9]) (by kernel_rfl) (by simp) ?_
  refine AllReadyH.cons rfl (fun K' hK => ?_) AllReadyH.nil
  have H1 := Lib.hid hHeld
  clear hHeld
  go_simp
  refine (text_any _ _ _).mono ?_
  rintro e w9 ⟨rfl, rfl⟩
  refine hK.out _ _ H1.out (fun hHeld => ?_)
  clear hK H1
  try simp only [Act.put, List.setIfInBounds_toArray, List.set_cons_zero, List.set_cons_succ]
  refine wpAnyH_ready (rs := [14]) (by kernel_rfl) (by simp) ?_
  refine AllReadyH.cons rfl (fun K' hK => ?_) AllReadyH.nil
  have H1 := Lib.hid hHeld
  clear hHeld
  go_simp
  refine (text_any _ _ _).mono ?_
  rintro e w9 ⟨rfl, rfl⟩
  refine hK.out _ _ H1.out (fun hHeld => ?_)
  clear hK H1
  try simp only [Act.put, List.setIfInBounds_toArray, List.set_cons_zero, List.set_cons_succ]
  refine wpAnyH_ready (rs := [19]) (by kernel_rfl) (by simp) ?_
  refine AllReadyH.cons rfl (fun K' hK => ?_) AllReadyH.nil
  have H1 := Lib.hid hHeld
  clear hHeld
  go_simp
  refine (number_any _ _ _).mono ?_
  rintro e w9 ⟨rfl, rfl⟩
  refine hK.out _ _ H1.out (fun hHeld => ?_)
  clear hK H1
  try simp only [Act.put, List.setIfInBounds_toArray, List.set_cons_zero, List.set_cons_succ]
  refine wpAnyH_ready (rs := [24]) (by kernel_rfl) (by simp) ?_
  refine AllReadyH.cons rfl (fun K' hK => ?_) AllReadyH.nil
  have H1 := Lib.hid hHeld
  clear hHeld
  go_simp
  refine (number_any _ _ _).mono ?_
  rintro e w9 ⟨rfl, rfl⟩
  refine hK.out _ _ H1.out (fun hHeld => ?_)
  clear hK H1
  try simp only [Act.put, List.setIfInBounds_toArray, List.set_cons_zero, List.set_cons_succ]
  refine wpAnyH_ready (rs := [29]) (by kernel_rfl) (by simp) ?_
  refine AllReadyH.cons rfl (fun K' hK => ?_) AllReadyH.nil
  have H1 := Lib.hid hHeld
  clear hHeld
  go_simp
  refine (number_any _ _ _).mono ?_
  rintro e w9 ⟨rfl, rfl⟩
  refine hK.out _ _ H1.out (fun hHeld => ?_)
  clear hK H1
  try simp only [Act.put, List.setIfInBounds_toArray, List.set_cons_zero, List.set_cons_succ]
  refine wpAnyH_ready (rs := [34]) (by kernel_rfl) (by simp) ?_
  refine AllReadyH.cons rfl (fun K' hK => ?_) AllReadyH.nil
  have H1 := Lib.hid hHeld
  clear hHeld
  go_simp
  refine (number_any _ _ _).mono ?_
  rintro e w9 ⟨rfl, rfl⟩
  refine hK.out _ _ H1.out (fun hHeld => ?_)
  clear hK H1
  try simp only [Act.put, List.setIfInBounds_toArray, List.set_cons_zero, List.set_cons_succ]
  refine wpAnyH_ready (rs := [41]) (by kernel_rfl) (by simp) ?_
  refine AllReadyH.cons rfl (fun K' hK => ?_) AllReadyH.nil
  have H1 := Lib.hid hHeld
  clear hHeld
  go_simp
  refine (number_any _ _ _).mono ?_
  rintro e w9 ⟨rfl, rfl⟩
  refine hK.out _ _ H1.out (fun hHeld => ?_)
  clear hK H1
  try simp only [Act.put, List.setIfInBounds_toArray, List.set_cons_zero, List.set_cons_succ]
  refine wpAnyH_ready (rs := [42]) (by kernel_rfl) (by simp) ?_
  refine AllReadyH.cons rfl (fun K' hK => ?_) AllReadyH.nil
  have H1 := Lib.hid hHeld
  clear hHeld
  go_simp
  refine hK.out _ _ (H1.out.alloc _) (fun hHeld => ?_)
  clear hK H1
  try simp only [Act.put, List.setIfInBounds_toArray, List.set_cons_zero, List.set_cons_succ]
  refine wpAnyH_take (i := 43) (oi := ?oi43x68) (v := ?v43x68) ?hi43x68 (by kernel_rfl) (by kernel_rfl) (by kernel_rfl) ?hq43x68 ?hy43x68 hHeld ?rest43x68
  case hi43x68 => ((try simp only [List.getElem?_toArray, List.getElem?_cons_succ, List.getElem?_cons_zero]); (try rfl))
  case hq43x68 => exact fun _ _ _ h => h
  case hy43x68 => exact Or.inl ⟨by rfl, by intro w hSw; clear hSw; go_simp; try with_reducible rfl⟩
  try simp only [Act.put, List.setIfInBounds_toArray, List.set_cons_zero, List.set_cons_succ]
  refine wpAnyH_done (by kernel_rfl) ?_ _
  have B0 := Lib.hid (BL.out _ hHeld)
  have CL := Lib.hid (CC.out _ _ (row3 w (.cells (obsC ⟨n0, s0, t0, r0, d0, g0, m0, b0⟩).toArray 23) (.cells (obsC ⟨n1, s1, t1, r1, d1, g1, m1, b1⟩).toArray 23) (cmpC ⟨n0, s0, t0, r0, d0, g0, m0, b0⟩ ⟨n1, s1, t1, r1, d1, g1, m1, b1⟩) 3))
  clear hHeld BL CC
  generalize (((w.alloc (.cells (obsC ⟨n0, s0, t0, r0, d0, g0, m0, b0⟩).toArray 23)).alloc (.cells (obsC ⟨n1, s1, t1, r1, d1, g1, m1, b1⟩).toArray 23)).alloc (.cells (cmpC ⟨n0, s0, t0, r0, d0, g0, m0, b0⟩ ⟨n1, s1, t1, r1, d1, g1, m1, b1⟩).toArray 3)).drew = W9 at *
  have Z8 := Lib.hid z8
  clear z8
  go_wp2_with fail
  go_loop [6] (fun i => ∃ k : Nat, k ≤ 8 ∧ i = .int .i64 k ∧ Hid (∀ j (h : j < cl.length), j < k → cl[j] = 0)) (fun i => 8 - (intOf i).toNat)
  case atStart => exact ⟨0, Nat.zero_le _, rfl, Lib.hid (fun j _ h => by omega)⟩
  case round =>
    obtain ⟨k, hk, rfl, D⟩ := hrel
    by_cases hlt : k < 8
    · have hkl : k < cl.length := by rw [Z8.out]; exact hlt
      have c0 := CL.out k hkl
      have i1 : (k : Int) < 8 := by omega
      by_cases hz : cl[k] = 0
      · have DK := Lib.hid (show ∀ j (h : j < cl.length), j < k + 1 → cl[j] = 0 from fun j h hj => by
          by_cases e : j = k
          · subst e; exact hz
          · exact D.out j h (by omega))
        rw [hz] at c0
        clear D E8 E0 hz
        go_wp2_with fail
        go_round
        case rel => exact ⟨k + 1, by omega, by go_num, DK⟩
        case measure => simp [intOf]; omega
      · have E := Lib.hid (E8.out k hkl D.out hz)
        generalize cl[k]'hkl = v at *
        have hz2 : (v != 0) = true := by rw [bne, beq_eq_false_iff_ne.2 hz]; rfl
        clear D E8 E0
        go_wp2_with fail
        go_ret
        exact ⟨by rw [E.out]; rfl, B0.out⟩
    · obtain rfl : k = 8 := by omega
      have E := Lib.hid (E0.out (fun i hi => D.out i hi (by have := Z8.out; omega)))
      clear E8 E0 D
      go_wp2_with fail
      go_ret
      exact ⟨by rw [E.out]; rfl, B0.out⟩
end Ow
end Go.Proofs.YtgodhaphbgllhaaGreatDoor
/-
  Plain law of observations: a line that is read has no line feed; no walk here.
-/
namespace Go.Proofs.YtgodhaphbgllhaaGreatDoor
namespace Op
open Go.RowKit Lw Go.Proofs.YtgodhaphbgllhaaGreatDoor.Ap Go.Proofs.YtgodhaphbgllhaaGreatDoor.Mp Go.Proofs.YtgodhaphbgllhaaGreatDoor.At Go.Proofs.YtgodhaphbgllhaaGreatDoor.Ow Go.Proofs.YtgodhaphbgllhaaGreatDoor.Mw

/-- No line feed. -/
def noL (l : List UInt8) : Prop := ∀ c ∈ l, c ≠ 10
instance (l : List UInt8) : Decidable (noL l) := by unfold noL; infer_instance
theorem noL_app {a b : List UInt8} (ha : noL a) (hb : noL b) : noL (a ++ b) := fun c hc => (List.mem_append.1 hc).elim (ha c) (hb c)
theorem noL_sp (n : Nat) : noL (spL n) := fun c hc => by rw [(List.mem_replicate.1 hc).2]; decide
theorem noL_dig {l : List UInt8} (h : allD l) : noL l := fun c hc e => by have := (h c hc).1; rw [e] at this; exact absurd this (by decide)
theorem noL_dec (n k : Nat) : noL (decL n k) := noL_dig (decL_num _ _).2
theorem noL_cons {c : UInt8} {l : List UInt8} (hc : c ≠ 10) (h : noL l) : noL (c :: l) := fun x hx => (List.mem_cons.1 hx).elim (fun e => by rw [e]; exact hc) (h x)
theorem noL_word {l : List UInt8} (h : wordP l) : noL l := fun c hc e => by
  have := h c hc
  rw [e] at this
  revert this
  decide
theorem noL_cut {t : ByteArray} (h : noL (cutS t).data.toList) : noL t.data.toList := by
  rw [cut_fill t]
  exact noL_app h (noL_sp _)
theorem noL_clk {s : ByteArray} (h : Gp.validP s) : noL s.data.toList := by
  obtain ⟨a, b, c, T, k⟩ := clk_of h
  rw [k.eq]
  refine noL_app (noL_dec _ _) (noL_app (by decide) (noL_app (noL_dec _ _) (noL_app (by decide) (noL_app (noL_dec _ _) ?_))))
  by_cases hT : T = []
  · rw [if_pos hT]; intro c hc; cases hc
  · rw [if_neg hT]; exact noL_cons (by decide) (noL_dig k.d)
theorem noL_day {s : ByteArray} {v : Int} (h : PDayIs s v 0) : noL s.data.toList := by
  obtain ⟨y, m, D, q, _, _, hs, _⟩ := day_form h
  rw [hs, dayt_L]
  refine noL_app (noL_dec _ _) (noL_cons (by decide) (noL_app (noL_dec _ _) (noL_cons (by decide) (noL_app (noL_dec _ _) ?_))))
  by_cases c : 0 < s.size - 11
  · rw [if_pos c]; exact noL_cons (by decide) (noL_dec _ _)
  · rw [if_neg c]; intro c hc; cases hc
theorem noL_ra {s : ByteArray} {v : Int} (h : Gp.RaIs s v 0) : noL s.data.toList := by
  rcases h with ⟨h, _⟩ | ⟨_, _, h⟩
  · exact noL_clk h
  · cases h
theorem noL_of_bt {s : ByteArray} (h : ∀ k, k < s.size → bt s k ≠ 10) : noL s.data.toList := fun c hc e => by
  obtain ⟨k, hk, rfl⟩ := List.getElem_of_mem hc
  have hk' : k < s.size := by rw [size_L]; exact hk
  have := h k hk'
  rw [bt_L s k hk', List.getD_eq_getElem?_getD, List.getElem?_eq_getElem hk, Option.getD_some, e] at this
  exact this rfl
theorem noL_decl {s : ByteArray} {v : Int} (h : Gp.DecIs s v 0) : noL s.data.toList := by
  rcases h with ⟨⟨⟨z, hs⟩, hv, _⟩, _⟩ | ⟨_, _, h⟩
  · obtain ⟨x, l, hl, _⟩ := cons_of (l := s.data.toList) (n := 0) (by rw [← size_L]; omega)
    have es : s = ⟨(x :: l).toArray⟩ := by rw [← hl, mk_toL]
    have et : Gp.tailOf s = ⟨l.toArray⟩ := by rw [es, Gp.tail_mk]
    have eg : s.get! 0 = x := by rw [es, Gp.get0]
    rw [et] at hv
    rw [eg] at hs
    have := noL_clk hv
    rw [toL_mk] at this
    rw [hl]
    refine noL_cons (fun e => ?_) this
    rw [e] at hs
    revert hs
    decide
  · cases h
theorem noL_mag {s : ByteArray} {m : Int} (z : s.size = 5) (h : MagIs s m) : noL s.data.toList := noL_of_bt fun k hk => by
  obtain ⟨h2, h1, h3, h4, h0⟩ := h
  unfold dgP at *
  match k, (by omega : k < 5) with
  | 0, _ => omega
  | 1, _ => omega
  | 2, _ => omega
  | 3, _ => omega
  | 4, _ => omega
  | k + 5, h => omega
theorem noL_blank {t : ByteArray} (h : blankP t) : noL t.data.toList := fun c hc => by rw [h c hc]; decide
theorem noL_numb {s : ByteArray} (h : numbP s) : noL s.data.toList := by
  obtain ⟨z, h⟩ := h
  have e : s.data.toList = (s.extract 0 1).data.toList ++ (s.extract 1 5).data.toList := by
    rw [ext_L _ _ _ (by omega), ext_L _ _ _ (by omega), List.drop_zero]
    have : (List.drop 1 s.data.toList).take (5 - 1) = List.drop 1 s.data.toList := List.take_of_length_le (by rw [List.length_drop, ← size_L]; omega)
    rw [this, List.take_append_drop]
  rcases h with ⟨a, b⟩ | ⟨a, _, b⟩
  · rw [e]
    refine noL_app (noL_of_bt fun k hk => ?_) (noL_word b)
    have z1 : (s.extract 0 1).size = 1 := by rw [ByteArray.size_extract]; omega
    obtain rfl : k = 0 := by omega
    rw [bt_ext s 0 1 0 (by omega) (by omega)]
    show bt s 0 ≠ 10
    omega
  · rw [e]
    exact noL_app (noL_word a) (noL_dig b)
theorem good_noL {s : ByteArray} {o : Ob} (G : Good s o) : noL s.data.toList := by
  have hz := G.size
  obtain ⟨_, nm, _, sw, _, _, _, _, _, _, mg⟩ := G.ok
  rw [all_split G.size]
  have n1 : noL (sl s 0 5) ∧ noL (sl s 5 12) := by
    rcases G.name with ⟨a, b, c⟩ | ⟨a, b, c, d⟩
    · refine ⟨noL_blank a, noL_cut ?_⟩
      rw [← b]
      rcases nm with n | ⟨_, _, n⟩
      · exact absurd n c
      · exact noL_word n
    · refine ⟨?_, noL_blank d⟩
      have : noL o.name.data.toList := noL_numb c
      rw [b] at this
      exact this
  have m1 : noL (sl s 12 15) := by rw [mark_sl G]; decide
  have g1 : noL (sl s 65 71) := by
    rcases G.mag with ⟨a, _⟩ | ⟨_, b, c⟩
    · exact noL_blank a
    · have z5 : (s.extract 65 70).size = 5 := by rw [ByteArray.size_extract, hz]; rfl
      have a1 := drop_split s 65 71 (by omega) (by omega)
      have a2 := drop_split s 65 70 (by omega) (by omega)
      have e70 := drop_split s 70 71 (by omega) (by omega)
      have sp : sl s 65 71 = sl s 65 70 ++ sl s 70 71 := by
        rw [a2, e70, ← List.append_assoc] at a1
        exact (List.append_cancel_right a1).symm
      rw [sp]
      refine noL_app (noL_mag z5 b) (noL_of_bt fun k hk => ?_)
      have z1 : (s.extract 70 71).size = 1 := by rw [ByteArray.size_extract, hz]; rfl
      obtain rfl : k = 0 := by omega
      rw [bt_ext s 70 71 0 (by omega) (by omega)]
      have : o.band ≠ 10 := by
        unfold magP ltP at mg
        omega
      rw [← c]
      exact this
  have s1 : noL (sl s 77 80) := by
    have := G.site
    have h2 := noL_word sw
    rw [this] at h2
    exact h2
  exact noL_app n1.1 (noL_app n1.2 (noL_app m1 (noL_app (noL_cut (noL_day G.day)) (noL_app (noL_cut (noL_ra G.ra)) (noL_app (noL_cut (noL_decl G.dec)) (noL_app (noL_blank G.b1) (noL_app g1 (noL_app (noL_blank G.b2) s1))))))))
end Op
end Go.Proofs.YtgodhaphbgllhaaGreatDoor
/-
  strings.Cut at one byte.
-/
namespace Go.Proofs.YtgodhaphbgllhaaGreatDoor
namespace Ow
open Go.RowKit Lw Go.Proofs.YtgodhaphbgllhaaGreatDoor.Ap Go.Proofs.YtgodhaphbgllhaaGreatDoor.Mp Go.Proofs.YtgodhaphbgllhaaGreatDoor.At

theorem idx_one : ∀ (l : List UInt8) (c : UInt8), (Lib.indexByte l c = -1 ∧ ∀ x ∈ l, x ≠ c) ∨ ∃ k : Nat, Lib.indexByte l c = k ∧ ∃ h : k < l.length, l[k] = c ∧ ∀ i (hi : i < l.length), i < k → l[i] ≠ c
  | [], c => Or.inl ⟨rfl, fun x hx => by cases hx⟩
  | b :: l, c => by
    unfold Lib.indexByte
    by_cases h : (b == c) = true
    · rw [if_pos h]
      exact Or.inr ⟨0, rfl, by simp, by simpa using h, fun i _ hi => by omega⟩
    · rw [if_neg h]
      have hb : b ≠ c := by simpa using h
      rcases idx_one l c with ⟨e, g⟩ | ⟨k, e, hk, g1, g2⟩
      · refine Or.inl ⟨by simp only [e]; rfl, fun x hx => ?_⟩
        rcases List.mem_cons.1 hx with rfl | hx
        · exact hb
        · exact g x hx
      · refine Or.inr ⟨k + 1, ?_, by simpa using hk, by simpa using g1, fun i hi hik => ?_⟩
        · simp only [e]
          have : ¬ ((k : Int) == -1) = true := by simp
          rw [if_neg this]
          omega
        · match i, hi, hik with
          | 0, _, _ => exact hb
          | i + 1, hi, hik => exact g2 i (by simpa using hi) (by omega)
/-- What Cut at a byte returns. -/
def NCut (s : ByteArray) (c : UInt8) (a b : ByteArray) (ok : Bool) : Prop := (ok = true ∧ ∃ j, j < s.size ∧ bt s j = (c.toNat : Int) ∧ (∀ i, i < j → bt s i ≠ (c.toNat : Int)) ∧ a = s.extract 0 j ∧ b = s.extract (j + 1) s.size) ∨ (ok = false ∧ (∀ i, i < s.size → bt s i ≠ (c.toNat : Int)) ∧ a = s ∧ b = ⟨#[]⟩)
theorem size_L2 (s : ByteArray) : s.size = s.data.toList.length := (Array.length_toList (xs := s.data)).symm
theorem bt_ne {s : ByteArray} {c : UInt8} {i : Nat} (hi : i < s.data.toList.length) (h : s.data.toList[i] ≠ c) : bt s i ≠ (c.toNat : Int) := fun e => h (UInt8.toNat_inj.1 (by
  rw [bt_L s i (by rw [size_L2]; exact hi), List.getD_eq_getElem?_getD, List.getElem?_eq_getElem hi, Option.getD_some] at e
  omega))
set_option maxRecDepth 100000 in
set_option maxHeartbeats 1000000 in
theorem nicut_any (s : ByteArray) (c : UInt8) (w : World) (hs : s.size ≤ maxLen) :
    Calls Tryz.prog 110 #[.string s, .string ⟨#[c]⟩] w fun e w' => ∃ a b ok, e = .returned (.tuple #[.string a, .string b, .bool ok]) ∧ NCut s c a b ok ∧ Below w.heap.size w w' := by
  have IX := Tryz.stringslite_Index_one s c w
  have M : maxLen = 9223372036854775807 := rfl
  have hl := size_L2 s
  rcases idx_one s.data.toList c with ⟨e, g⟩ | ⟨q, e, hq, g1, g2⟩
  · have F := Lib.hid (show NCut s c s ⟨#[]⟩ false from Or.inr ⟨rfl, fun i hi => bt_ne (by omega) (g _ (List.getElem_mem _)), rfl, rfl⟩)
    rw [e] at IX
    clear e g hl
    go_enter Tryz.func110, Tryz.ntmps110
    go_wp2_with fail
    refine IX.mono ?_
    rintro e w1 ⟨rfl, rfl⟩
    go_wp2_with fail
    go_ret3
    exact ⟨_, _, _, rfl, F.out, Below.refl _ _⟩
  · have F := Lib.hid (show NCut s c (s.extract 0 q) (s.extract (q + 1) s.size) true from Or.inl ⟨rfl, q, by omega, by rw [bt_L s q (by omega), List.getD_eq_getElem?_getD, List.getElem?_eq_getElem hq, Option.getD_some, g1], fun i hi => bt_ne (by omega) (g2 i (by omega) hi), rfl, rfl⟩)
    rw [e] at IX
    have hq' : q < s.size := by omega
    clear e g1 g2 hq hl
    have i0 : 0 ≤ (q : Int) := by omega
    have le : q ≤ s.size := by omega
    have le1 : (q : Int) ≤ (s.size : Int) := by omega
    go_enter Tryz.func110, Tryz.ntmps110
    go_wp2_with fail
    refine IX.mono ?_
    rintro e w1 ⟨rfl, rfl⟩
    go_wp2_with fail
    go_quiet (fail)
    go_wp2_with fail
    go_ret3
    exact ⟨_, _, _, rfl, F.out, drewN_below2 (Below.refl _ _) _⟩
theorem ncut_any (s : ByteArray) (c : UInt8) (w : World) (hs : s.size ≤ maxLen) :
    Calls Tryz.prog 64 #[.string s, .string ⟨#[c]⟩] w fun e w' => ∃ a b ok, e = .returned (.tuple #[.string a, .string b, .bool ok]) ∧ NCut s c a b ok ∧ Below w.heap.size w w' := by
  go_enter Tryz.func64, Tryz.ntmps64
  go_wp2_with fail
  refine (nicut_any s c w hs).mono ?_
  rintro e w1 ⟨a, b, ok, rfl, h, hb⟩
  have H := Lib.hid h
  clear h
  go_wp2_with fail
  go_ret3
  exact ⟨_, _, _, rfl, H.out, hb⟩
end Ow
end Go.Proofs.YtgodhaphbgllhaaGreatDoor
/-
  Plain law of files of observations: one step of reading; no walk here.
-/
namespace Go.Proofs.YtgodhaphbgllhaaGreatDoor
namespace Op
open Go.RowKit Lw Go.Proofs.YtgodhaphbgllhaaGreatDoor.Ap Go.Proofs.YtgodhaphbgllhaaGreatDoor.Mp Go.Proofs.YtgodhaphbgllhaaGreatDoor.At Go.Proofs.YtgodhaphbgllhaaGreatDoor.Ow Go.Proofs.YtgodhaphbgllhaaGreatDoor.Mw

theorem ext_ext3 (s : ByteArray) (i j a b : Nat) (h : i + b ≤ j) (hj : j ≤ s.size) : (s.extract i j).extract a b = s.extract (i + a) (i + b) := by
  apply toL_inj
  rw [ext_L _ _ _ (by rw [ByteArray.size_extract]; omega), ext_L _ _ _ hj, ext_L _ _ _ (by omega)]
  rw [List.drop_take, List.take_take, List.drop_drop]
  congr 1
  omega
theorem bt_noL {s : ByteArray} (h : noL s.data.toList) {k : Nat} (hk : k < s.size) : bt s k ≠ 10 := fun e => by
  have hk' : k < s.data.toList.length := by rw [← size_L]; exact hk
  have := h _ (List.getElem_mem hk')
  rw [bt_L s k hk, List.getD_eq_getElem?_getD, List.getElem?_eq_getElem hk', Option.getD_some] at e
  exact this (UInt8.toNat_inj.1 (by
    have h10 : (10 : UInt8).toNat = 10 := rfl
    omega))
theorem step_yes {s a b : ByteArray} {k : Nat} {q : Ob} {r : ByteArray} (hr : r = s.extract (81 * k) s.size) (hk : 81 * k ≤ s.size) (h : NCut r 10 a b true) (g : Good a q) : StepAt s k q ∧ b = s.extract (81 * (k + 1)) s.size ∧ 81 * (k + 1) ≤ s.size := by
  subst hr
  have zr : (s.extract (81 * k) s.size).size = s.size - 81 * k := by rw [ByteArray.size_extract]; omega
  rcases h with ⟨_, j, hj, h10, hn, ha, hb⟩ | ⟨h, _⟩
  · rw [zr] at hj
    have za : a.size = j := by rw [ha, ByteArray.size_extract, zr]; omega
    have := g.size
    obtain rfl : j = 80 := by omega
    have ea : a = s.extract (81 * k) (81 * k + 80) := by rw [ha, ext_ext3 _ _ _ _ _ (by omega) (Nat.le_refl _)]; rfl
    have e10 : bt s (81 * k + 80) = 10 := by
      rw [← bt_ext s (81 * k) s.size 80 (by omega) (Nat.le_refl _)]
      exact h10
    refine ⟨⟨by omega, by rw [← ea]; exact g, e10⟩, ?_, by omega⟩
    rw [hb, zr, ext_ext3 _ _ _ _ _ (by omega) (Nat.le_refl _)]
    congr 1
    omega
  · cases h
theorem step_no {s a b : ByteArray} {k : Nat} {ok : Bool} {r : ByteArray} (hr : r = s.extract (81 * k) s.size) (h : NCut r 10 a b ok) (g : ok = false ∨ ∀ x, ¬ Good a x) : ∀ o, ¬ StepAt s k o := fun o ⟨z, go, e10⟩ => by
  subst hr
  have zr : (s.extract (81 * k) s.size).size = s.size - 81 * k := by rw [ByteArray.size_extract]; omega
  have b80 : bt (s.extract (81 * k) s.size) 80 = 10 := by
    rw [bt_ext s (81 * k) s.size 80 (by omega) (Nat.le_refl _)]
    exact e10
  rcases h with ⟨h, j, hj, h10, hn, ha, hb⟩ | ⟨_, h, _⟩
  · have j80 : ¬ 80 < j := fun c => hn 80 c b80
    have j81 : ¬ j < 80 := fun c => by
      have := bt_noL (good_noL go) (k := j) (by rw [ByteArray.size_extract]; omega)
      rw [bt_ext s _ _ j (by omega) (by omega)] at this
      rw [bt_ext s _ _ j (by omega) (Nat.le_refl _)] at h10
      exact this h10
    obtain rfl : j = 80 := by omega
    have ea : a = s.extract (81 * k) (81 * k + 80) := by rw [ha, ext_ext3 _ _ _ _ _ (by omega) (Nat.le_refl _)]; rfl
    rcases g with g | g
    · rw [g] at h; cases h
    · exact g o (by rw [ea]; exact go)
  · exact h 80 (by omega) b80
theorem obs_c {s : ByteArray} {q : Ob} {c : Int} (h : ObsIs s q c) : (Good s q ∧ c = 0) ∨ ((∀ x, ¬ Good s x) ∧ c = 12) := h.elim Or.inl (fun ⟨a, _, b⟩ => Or.inr ⟨a, b⟩)
theorem ext_all (s : ByteArray) : s.extract (81 * 0) s.size = s := by simp
end Op
end Go.Proofs.YtgodhaphbgllhaaGreatDoor
/-
  The walk of ParseAll of obs.
-/
namespace Go.Proofs.YtgodhaphbgllhaaGreatDoor
namespace Ow
open Go.RowKit Lw Go.Proofs.YtgodhaphbgllhaaGreatDoor.Ap Go.Proofs.YtgodhaphbgllhaaGreatDoor.Op Go.Proofs.YtgodhaphbgllhaaGreatDoor.Mp Go.Proofs.YtgodhaphbgllhaaGreatDoor.Mw Go.Proofs.YtgodhaphbgllhaaGreatDoor.At

def ParseAllPost (s : ByteArray) (w : World) (e : Ending) (w' : World) : Prop := ∃ (v : Value) (l : List Ob) (c : Int), e = .returned (.tuple #[v, .int .i64 c]) ∧ ParseAllIs s l c ∧ SlV w' v l ∧ Below w.heap.size w w'
set_option maxRecDepth 100000 in
set_option maxHeartbeats 8000000 in
theorem parseall_any (s : ByteArray) (w : World) (hE : ES w) (hs : s.size ≤ 1000) : Calls Tryz.prog 22 #[.string s] w (ParseAllPost s w) := by
  have HE := Lib.hid (fun w' (h : Below w.heap.size w w') => hE.below h)
  have PA := Lib.hid (fun (a : ByteArray) (h : a.size ≤ maxLen) w' (k : ES w') => obs_parse_any a w' k h)
  clear hE
  go_enter Tryz.func22, Tryz.ntmps22
  go_wp2_with fail
  go_loopw [0, 4] (fun r v wr => ∃ (k : Nat) (l : List Ob) (R : ByteArray), r = .string R ∧ Hid (R = s.extract (81 * k) s.size) ∧ Hid (PartTo s k l) ∧ Hid (OwnO wr w.heap.size v l) ∧ Hid (Below w.heap.size w wr)) (fun r _ _ => lenOfV r)
  case atStart => exact ⟨0, [], s, rfl, Lib.hid (ext_all s).symm, Lib.hid rfl, Lib.hid (OwnO.nil w _ (Nat.le_refl _)), Lib.hid (Below.refl _ _)⟩
  case round =>
    obtain ⟨k, l, R, rfl, HR, HP, HO, HB⟩ := hrel
    have zk := HP.out.len
    have zR : R.size = s.size - 81 * k := by rw [HR.out, ByteArray.size_extract]; omega
    by_cases h0 : R.size = 0
    · have em := empty_yes h0
      have F := Lib.hid (show ParseAllIs s l 0 from ⟨k, l, HP.out, Or.inl ⟨by omega, by omega, rfl, rfl⟩⟩)
      obtain ⟨x, cap, rfl, hx⟩ := slV_of HO.out.1
      have HX := Lib.hid hx
      have n5 : ¬ (500 : Int) < (l.length : Int) := by omega
      have B0 := Lib.hid HB.out
      clear hx HP HO HR HB PA HE zk zR h0
      go_wp2_with fail
      go_ret2
      exact ⟨_, l, 0, rfl, F.out, ⟨x, cap, rfl, HX.out⟩, B0.out⟩
    · have em := empty_no h0
      have z1 : R.size ≤ 1000 := by omega
      have NC := Lib.hid (fun w' => ncut_any R 10 w' (by unfold maxLen; omega))
      have LT := Lib.hid (show 81 * k < s.size by have := zk.2; omega)
      clear h0
      go_wp2_with fail
      refine (NC.out _).mono ?_
      rintro e w1 ⟨a, b, ok, rfl, hC, hb1⟩
      have HC := Lib.hid hC
      have O1 := Lib.hid (HO.out.below hb1)
      have B1 := Lib.hid (below_then HB.out hb1)
      have E1 := Lib.hid (HE.out _ B1.out)
      have za : a.size ≤ maxLen := by
        rcases hC with ⟨_, j, hj, _, _, h, _⟩ | ⟨_, _, h, _⟩
        · rw [h, ByteArray.size_extract]; unfold maxLen; omega
        · rw [h]; unfold maxLen; omega
      have PAa := Lib.hid (PA.out a za)
      clear hC hb1 HO HB PA NC za em
      go_wp2_with fail
      refine (PAa.out _ E1.out).mono ?_
      rintro e w2 ⟨q, c, rfl, hP, hb2⟩
      have bx := (Below.refl w2.heap.size w2).alloc (Nat.le_refl _) (.cells (obsC q).toArray 23)
      have O2 := Lib.hid ((O1.out.below hb2).below bx)
      have B2 := Lib.hid (below_then (below_then B1.out hb2) bx)
      have X2 := Lib.hid (Box.new w2 q)
      clear hb2 O1 B1 E1 PAa bx
      rcases (show (ok = false) ∨ (ok = true ∧ c = 12 ∧ ∀ x, ¬ Op.Good a x) ∨ (ok = true ∧ c = 0 ∧ Op.Good a q) from by
        cases ok
        · exact Or.inl rfl
        · rcases obs_c hP with ⟨g1, g2⟩ | ⟨g1, g2⟩
          · exact Or.inr (Or.inr ⟨rfl, g2, g1⟩)
          · exact Or.inr (Or.inl ⟨rfl, g2, g1⟩)) with rfl | ⟨rfl, rfl, g⟩ | ⟨rfl, rfl, g⟩
      · have lt := LT.out
        have F := Lib.hid (show ParseAllIs s [] 12 from ⟨k, l, HP.out, Or.inr (Or.inr ⟨lt, step_no HR.out HC.out (Or.inl rfl), rfl, rfl⟩)⟩)
        clear hP HC HP HR zk zR lt X2 O2
        go_wp2_with (refine wpList_store_new rfl _ (.tmp 8) (.tmp 21) rfl _ _ rfl rfl info8 rfl ?_ ?_; simp [Value.oneCell'])
        go_ret2
        exact ⟨_, [], 12, rfl, F.out, SlV.nil _, B2.out⟩
      · have lt := LT.out
        have F := Lib.hid (show ParseAllIs s [] 12 from ⟨k, l, HP.out, Or.inr (Or.inr ⟨lt, step_no HR.out HC.out (Or.inr g), rfl, rfl⟩)⟩)
        clear hP HC HP HR zk zR lt X2 O2 g
        go_wp2_with (refine wpList_store_new rfl _ (.tmp 8) (.tmp 21) rfl _ _ rfl rfl info8 rfl ?_ ?_; simp [Value.oneCell'])
        go_ret2
        exact ⟨_, [], 12, rfl, F.out, SlV.nil _, B2.out⟩
      · obtain ⟨st, hb, hk1⟩ := step_yes HR.out zk.2 HC.out g
        have HP1 := Lib.hid (show PartTo s (k + 1) (l ++ [q]) from ⟨l, q, HP.out, st, rfl⟩)
        have HR1 := Lib.hid hb
        have zb : b.size < R.size := by rw [hb, ByteArray.size_extract]; omega
        have zl : l.length ≤ 1000000 := by have := zk.1; omega
        clear hP HC HP HR zk zR g st hb hk1
        go_wp2_with (first | (refine wpList_store_new rfl _ (.tmp 8) (.tmp 21) rfl _ _ rfl rfl info8 rfl ?_ ?_; simp [Value.oneCell']) | (refine wpList_load_mid rfl _ (.tmp 8) rfl w2.heap.size 0 rfl (obsC q) _ X2.out.row Tryz.underlying23 rfl info8 ?_) | (at_builtin; refine wp_app _ rfl (.tmp 29) (.tmp 31) rfl w.heap.size _ l q rfl (by first | rfl | simp [Act.eval]) O2.out zl ?_; intro v' w3 hO3 hb3))
        have B3 := Lib.hid (B2.out.trans hb3)
        have O3 := Lib.hid hO3
        clear hO3 hb3 B2 O2 X2
        go_wp2_with fail
        go_roundw
        case rel => exact ⟨k + 1, _, b, rfl, HR1, HP1, O3, B3⟩
        case measure => exact zb
end Ow
end Go.Proofs.YtgodhaphbgllhaaGreatDoor
/-
  Plain law of observations: inserting one into a sorted list; the row of memory behind an exchange.
-/
namespace Go.Proofs.YtgodhaphbgllhaaGreatDoor
namespace Ow
open Go.RowKit Lw Go.Proofs.YtgodhaphbgllhaaGreatDoor.Ap Go.Proofs.YtgodhaphbgllhaaGreatDoor.Op Go.Proofs.YtgodhaphbgllhaaGreatDoor.Mp Go.Proofs.YtgodhaphbgllhaaGreatDoor.Mw Go.Proofs.YtgodhaphbgllhaaGreatDoor.At

/-- All in order but what stands at j. -/
def Ins (y : List Ob) (j : Nat) : Prop := ∀ a b (_ : a < b) (hb : b < y.length), b ≠ j → cmpO (y[a]'(by omega)) y[b] ≤ 0
def swapO (y : List Ob) (m j : Nat) (hm : m < y.length) (hj : j < y.length) : List Ob := (y.set m y[j]).set j y[m]
theorem swapO_len (y : List Ob) (m j : Nat) (hm : m < y.length) (hj : j < y.length) : (swapO y m j hm hj).length = y.length := by simp [swapO]
theorem swapO_perm (y : List Ob) (m j : Nat) (hm : m < y.length) (hj : j < y.length) : (swapO y m j hm hj).Perm y := List.set_set_perm hm hj
theorem swapO_get (y : List Ob) (m j : Nat) (hm : m < y.length) (hj : j < y.length) (i : Nat) (hi : i < y.length) : (swapO y m j hm hj)[i]'(by rw [swapO_len]; exact hi) = if i = j then y[m] else if i = m then y[j] else y[i] := by
  unfold swapO
  rw [List.getElem_set]
  by_cases h : j = i
  · rw [if_pos h, if_pos h.symm]
  · rw [if_neg h, if_neg (fun e => h e.symm), List.getElem_set]
    by_cases g : m = i
    · rw [if_pos g, if_pos g.symm]
    · rw [if_neg g, if_neg (fun e => g e.symm)]
theorem ins_start {y : List Ob} {o : Ob} (h : ordL y) : Ins (y ++ [o]) y.length := fun a b hab hb hne => by
  have hb' : b < y.length := by simp at hb; omega
  rw [List.getElem_append_left (by omega), List.getElem_append_left hb']
  exact (List.pairwise_iff_getElem.1 h) a b (by omega) hb' hab
theorem ins_step {y : List Ob} {m j : Nat} (h : Ins y j) (e : j = m + 1) (hj : j < y.length) (g : 0 < cmpO (y[m]'(by omega)) y[j]) : Ins (swapO y m j (by omega) hj) m := fun a b hab hb hne => by
  have hb' : b < y.length := by rw [swapO_len] at hb; exact hb
  rw [swapO_get y m j _ hj a (by omega), swapO_get y m j _ hj b hb']
  by_cases hbj : b = j
  · rw [if_pos hbj, if_neg (show ¬ a = j by omega)]
    by_cases ham : a = m
    · rw [if_pos ham]
      have := cmp_O.anti (y[m]'(by omega)) y[j]
      omega
    · rw [if_neg ham]
      exact h a m (by omega) (by omega) (by omega)
  · rw [if_neg hbj, if_neg hne]
    by_cases haj : a = j
    · rw [if_pos haj]
      exact h m b (by omega) hb' hbj
    · rw [if_neg haj]
      by_cases ham : a = m
      · rw [if_pos ham]
        exact h j b (by omega) hb' hbj
      · rw [if_neg ham]
        exact h a b hab hb' hbj
theorem ins_stop {y : List Ob} {j : Nat} (h : Ins y j) (g : j = 0 ∨ ∃ m, ∃ e : j = m + 1, ∀ hj : j < y.length, cmpO (y[m]'(by omega)) y[j] ≤ 0) : ordL y := by
  unfold ordL
  rw [List.pairwise_iff_getElem]
  intro a b ha hb hab
  by_cases hbj : b = j
  · subst hbj
    rcases g with g | ⟨m, e, g⟩
    · omega
    · have g := g hb
      by_cases ham : a = m
      · subst ham; exact g
      · exact cmp_O.trans _ _ _ (h a m (by omega) (by omega) (by omega)) g
  · exact h a b hab hb hbj
theorem setCells_block {e : TypeId} {fr : Nat × Nat} {g : Nat} : ∀ (vs : List Value) (o : Nat) (w : World) (cur : Array Value), w.heap[g]? = some (.cells cur e fr) → ∃ cur', (w.setCells g o vs).heap[g]? = some (.cells cur' e fr) ∧ cur'.size = cur.size ∧ ∀ t, t < cur.size → cur'[t]? = if o ≤ t ∧ t < o + vs.length then vs[t - o]? else cur[t]?
  | [], o, w, cur, h => ⟨cur, h, rfl, fun t _ => by rw [if_neg (by simp)]⟩
  | v :: r, o, w, cur, h => by
    have h1 : (w.setCell ⟨g, o, none⟩ v).heap[g]? = some (.cells (cur.setIfInBounds o v) e fr) := by
      simp [World.setCell, Array.getElem?_modify, h]
    obtain ⟨cur', g1, g2, g3⟩ := setCells_block r (o + 1) _ _ h1
    refine ⟨cur', g1, by rw [g2]; simp, fun t ht => ?_⟩
    rw [g3 t (by simpa using ht)]
    simp only [List.length_cons]
    by_cases c1 : t = o
    · subst c1
      rw [if_neg (by omega), if_pos (by omega), Nat.sub_self]
      simp [ht]
    · by_cases c2 : o + 1 ≤ t ∧ t < o + 1 + r.length
      · rw [if_pos c2, if_pos (by omega)]
        rw [show t - o = (t - (o + 1)) + 1 by omega]
        rfl
      · rw [if_neg c2, if_neg (by omega)]
        rw [Array.getElem?_setIfInBounds_ne (by omega)]
theorem flatO_set {y : List Ob} {i : Nat} (hi : i < y.length) (q : Ob) (t : Nat) (ht : t < y.length * 8) : (flatO (y.set i q))[t]? = if i * 8 ≤ t ∧ t < i * 8 + 8 then (obsC q)[t - i * 8]? else (flatO y)[t]? := by
  have hk : t / 8 < y.length := by omega
  have hj : t % 8 < 8 := Nat.mod_lt _ (by omega)
  have et : t / 8 * 8 + t % 8 = t := by omega
  have cell : ∀ (l : List Ob) (hl : t / 8 < l.length), (flatO l)[t]? = (obsC l[t / 8])[t % 8]? := fun l hl => by
    have hj2 : t % 8 < (obsC l[t / 8]).length := hj
    rw [List.getElem?_eq_getElem hj2]
    have := flatO_get hl (List.getElem?_eq_getElem hj2)
    rwa [et] at this
  rw [cell _ (by simpa using hk), cell y hk, List.getElem_set]
  by_cases h : i = t / 8
  · rw [if_pos h, if_pos (by omega)]
    congr 1
    omega
  · rw [if_neg h, if_neg (by omega)]
theorem own_set {w : World} {B g cap : Nat} {y : List Ob} (h : OwnO w B (.slice (some ⟨g, 0, none⟩) y.length cap) y) {i : Nat} (hi : i < y.length) (q : Ob) : OwnO (w.setCells g (i * 8) (obsC q)) B (.slice (some ⟨g, 0, none⟩) y.length cap) (y.set i q) := by
  obtain ⟨⟨h1, h2⟩, hB⟩ := h
  rcases h2 with ⟨hv, _⟩ | ⟨g', cap', cur, hv, hb, hh, hc1, hc2, hs, ht⟩
  · cases hv
  · have eg : g = g' := by
      have := congrArg (fun v => match v with | Value.slice (some a) _ _ => a.block | _ => 0) hv
      exact this
    have ec : cap = cap' := by
      have := congrArg (fun v => match v with | Value.slice (some _) _ c => c | _ => 0) hv
      exact this
    subst eg ec
    obtain ⟨cur', g1, g2, g3⟩ := setCells_block (obsC q) (i * 8) w cur hh
    have hz : (w.setCells g (i * 8) (obsC q)).heap.size = w.heap.size := sets_size g (obsC q) (i * 8) w
    refine ⟨⟨by rw [flatO_len, List.length_set], Or.inr ⟨g, cap, cur', by rw [List.length_set], hb, g1, by rw [List.length_set]; exact hc1, hc2, by rw [g2]; exact hs, ?_⟩⟩, by rw [hz]; exact hB⟩
    rw [List.length_set]
    apply List.ext_getElem?
    intro t
    by_cases c : t < y.length * 8
    · have ct : t < cur.size := by
        have : y.length * 8 ≤ cap * 8 := Nat.mul_le_mul_right 8 hc1
        omega
      rw [List.getElem?_take_of_lt c, Array.getElem?_toList, g3 t ct, flatO_set hi q t c]
      have e0 : (flatO y)[t]? = cur[t]? := by
        rw [← ht, List.getElem?_take_of_lt c, Array.getElem?_toList]
      rw [e0]
      rfl
    · rw [List.getElem?_eq_none (by rw [List.length_take]; omega), List.getElem?_eq_none (by rw [flatO_len, List.length_set]; omega)]
theorem own_swap {w : World} {B g cap : Nat} {y : List Ob} (h : OwnO w B (.slice (some ⟨g, 0, none⟩) y.length cap) y) {m j : Nat} (hm : m < y.length) (hj : j < y.length) : OwnO ((w.setCells g (m * 8) (obsC y[j])).setCells g (j * 8) (obsC y[m])) B (.slice (some ⟨g, 0, none⟩) y.length cap) (swapO y m j hm hj) := by
  have h1 := own_set h hm y[j]
  have e : y.length = (y.set m y[j]).length := by simp
  rw [e] at h1
  have h2 := own_set h1 (i := j) (by rw [← e]; exact hj) y[m]
  rw [← e] at h2
  exact h2
theorem own_row {w : World} {B g cap : Nat} {y : List Ob} (h : OwnO w B (.slice (some ⟨g, 0, none⟩) y.length cap) y) {i : Nat} (hi : i < y.length) : w.rangeAt g (i * 8) (obsC y[i]) ∧ w.there g (i * 8) 8 := by
  have ho := h
  obtain ⟨⟨h1, h2⟩, hB⟩ := h
  rcases owns_form ho.1 with ⟨rfl, _⟩ | ⟨g', cap', hv, hb, lt, hr⟩
  · simp at hi
  · have eg : g = g' := by
      have := congrArg (fun v => match v with | Value.slice (some a) _ _ => a.block | _ => 0) hv
      exact this
    subst eg
    have r := hr i hi
    rw [Nat.zero_add] at r
    refine ⟨r, fun t ht => ⟨r.isSome t ht, ?_⟩⟩
    rcases h2 with ⟨hv, _⟩ | ⟨g', cap', cur, hv, hb, hh, _⟩
    · cases hv
    · have eg : g = g' := by
        have := congrArg (fun v => match v with | Value.slice (some a) _ _ => a.block | _ => 0) hv
        exact this
      subst eg
      exact Lib.frozen_of_heap hh _
end Ow
end Go.Proofs.YtgodhaphbgllhaaGreatDoor
/-
  The library contract of a sort, laid at this program.
-/
namespace Go.Proofs
open Go.Shelf
def Tryz.sortRec_ren : Go.Shelf.Ren := ⟨fun | 6 => 65 | 15 => 112 | 14 => 111 | 28 => 167 | 29 => 168 | 20 => 159 | 21 => 160 | 22 => 161 | 23 => 162 | 24 => 163 | 25 => 164 | 26 => 165 | 27 => 166 | 46 => 197 | 47 => 198 | 48 => 199 | 49 => 200 | 50 => 201 | 57 => 214 | n => n, fun | 22 => 97 | 24 => 98 | 25 => 100 | 3 => 3 | 39 => 105 | 0 => 0 | 53 => 146 | 55 => 115 | 4 => 4 | 46 => 173 | 45 => 172 | 50 => 73 | 5 => 5 | 9 => 9 | 66 => 197 | 70 => 201 | 76 => 214 | 77 => 215 | n => n, fun n => n⟩
theorem Tryz.sortRec : Go.Proofs.SlLaysF0.n6 Tryz.prog Tryz.sortRec_ren := {
  mixed := by kernel_rfl
  f6 := ⟨Tryz.f65.name, by decide, Tryz.func65.trans (congrArg some (by kernel_rfl))⟩
  f14 := ⟨Tryz.f111.name, by decide, Tryz.func111.trans (congrArg some (by kernel_rfl))⟩
  f15 := Tryz.func112.trans (congrArg some (by kernel_rfl))
  f20 := ⟨Tryz.f159.name, by decide, Tryz.func159.trans (congrArg some (by kernel_rfl))⟩
  f21 := ⟨Tryz.f160.name, by decide, Tryz.func160.trans (congrArg some (by kernel_rfl))⟩
  f22 := ⟨Tryz.f161.name, by decide, Tryz.func161.trans (congrArg some (by kernel_rfl))⟩
  f23 := ⟨Tryz.f162.name, by decide, Tryz.func162.trans (congrArg some (by kernel_rfl))⟩
  f24 := ⟨Tryz.f163.name, by decide, Tryz.func163.trans (congrArg some (by kernel_rfl))⟩
  f25 := ⟨Tryz.f164.name, by decide, Tryz.func164.trans (congrArg some (by kernel_rfl))⟩
  f26 := ⟨Tryz.f165.name, by decide, Tryz.func165.trans (congrArg some (by kernel_rfl))⟩
  f27 := ⟨Tryz.f166.name, by decide, Tryz.func166.trans (congrArg some (by kernel_rfl))⟩
  f28 := Tryz.func167.trans (congrArg some (by kernel_rfl))
  f29 := Tryz.func168.trans (congrArg some (by kernel_rfl))
  f46 := ⟨Tryz.f197.name, by decide, Tryz.func197.trans (congrArg some (by kernel_rfl))⟩
  f47 := Tryz.func198.trans (congrArg some (by kernel_rfl))
  f48 := Tryz.func199.trans (congrArg some (by kernel_rfl))
  f49 := ⟨Tryz.f200.name, by decide, Tryz.func200.trans (congrArg some (by kernel_rfl))⟩
  f50 := ⟨Tryz.f201.name, by decide, Tryz.func201.trans (congrArg some (by kernel_rfl))⟩
  f57 := ⟨Tryz.f214.name, by decide, Tryz.func214.trans (congrArg some (by kernel_rfl))⟩
  t0 := Tryz.underlying0
  a0 := Tryz.isAgg0
  z0 := Tryz.sizeOf0
  v0 := Tryz.zeroValue0
  t3 := Tryz.underlying3
  a3 := Tryz.isAgg3
  z3 := Tryz.sizeOf3
  v3 := Tryz.zeroValue3
  t4 := Tryz.underlying4
  a4 := Tryz.isAgg4
  z4 := Tryz.sizeOf4
  v4 := Tryz.zeroValue4
  t5 := Tryz.underlying5
  a5 := Tryz.isAgg5
  z5 := Tryz.sizeOf5
  v5 := Tryz.zeroValue5
  t9 := Tryz.underlying9
  a9 := Tryz.isAgg9
  z9 := Tryz.sizeOf9
  v9 := Tryz.zeroValue9
  t22 := Tryz.underlying97
  a22 := Tryz.isAgg97
  z22 := Tryz.sizeOf97
  v22 := Tryz.zeroValue97
  t25 := Tryz.underlying100
  a25 := Tryz.isAgg100
  z25 := Tryz.sizeOf100
  v25 := Tryz.zeroValue100
  t39 := Tryz.underlying105
  a39 := Tryz.isAgg105
  z39 := Tryz.sizeOf105
  v39 := Tryz.zeroValue105
  t45 := Tryz.underlying172
  a45 := Tryz.isAgg172
  z45 := Tryz.sizeOf172
  v45 := Tryz.zeroValue172
  t46 := Tryz.underlying173
  a46 := Tryz.isAgg173
  z46 := Tryz.sizeOf173
  v46 := Tryz.zeroValue173
  t50 := Tryz.underlying73
  a50 := Tryz.isAgg73
  z50 := Tryz.sizeOf73
  v50 := Tryz.zeroValue73
  t53 := Tryz.underlying146
  a53 := Tryz.isAgg146
  z53 := Tryz.sizeOf146
  v53 := Tryz.zeroValue146
  t55 := Tryz.underlying115
  a55 := Tryz.isAgg115
  z55 := Tryz.sizeOf115
  v55 := Tryz.zeroValue115
  t66 := Tryz.underlying197
  a66 := Tryz.isAgg197
  z66 := Tryz.sizeOf197
  v66 := Tryz.zeroValue197
  t70 := Tryz.underlying201
  a70 := Tryz.isAgg201
  z70 := Tryz.sizeOf201
  v70 := Tryz.zeroValue201
  t76 := Tryz.underlying214
  a76 := Tryz.isAgg214
  z76 := Tryz.sizeOf214
  v76 := Tryz.zeroValue214
  t77 := Tryz.underlying215
  a77 := Tryz.isAgg215
  z77 := Tryz.sizeOf215
  v77 := Tryz.zeroValue215 }
end Go.Proofs
/-
  slices.SortFunc at records of observations.
-/
namespace Go.Proofs.YtgodhaphbgllhaaGreatDoor
namespace Ow
open Go.RowKit Lw Go.Proofs.YtgodhaphbgllhaaGreatDoor.Ap Go.Proofs.YtgodhaphbgllhaaGreatDoor.Op Go.Proofs.YtgodhaphbgllhaaGreatDoor.Mp Go.Proofs.YtgodhaphbgllhaaGreatDoor.Mw Go.Proofs.YtgodhaphbgllhaaGreatDoor.At Go.Sort Go.Lib

instance : Inhabited Ob := ⟨zeroO⟩
theorem lt_cmp (x y : Ob) : ltOf cmpO x y = decide (cmpO x y < 0) := rfl
theorem swo_O : SWO (ltOf cmpO) where
  irrefl x := by rw [lt_cmp, cmpO_refl]; rfl
  trans x y z h1 h2 := by
    rw [lt_cmp] at *
    have h1 := of_decide_eq_true h1
    have h2 := of_decide_eq_true h2
    exact decide_eq_true (cmp_O.lt_le h1 (by omega))
  ntrans x y z h1 h2 := by
    rw [lt_cmp] at *
    have h1 := of_decide_eq_false h1
    have h2 := of_decide_eq_false h2
    have e1 := cmp_O.anti x y
    have e2 := cmp_O.anti y z
    have e3 := cmp_O.anti x z
    have := cmp_O.trans z y x (by omega) (by omega)
    exact decide_eq_false (by omega)
/-- The cells of a row that the call owns. -/
theorem holds_own {w : World} {B g cap : Nat} {l : List Ob} (h : OwnR w B (.slice (some ⟨g, 0, none⟩) l.length cap) l) (hn : l ≠ []) : HoldsK obsC 8 w g 0 l.toArray := by
  obtain ⟨⟨h1, h2⟩, _⟩ := h
  have hlt := h1
  rcases h2 with ⟨hv, hn0⟩ | ⟨g', cap', cur, hv, hb, hh, hc1, hc2, hs, ht⟩
  · exact absurd (List.length_eq_zero_iff.1 hn0) hn
  · have eg : g = g' := by
      have := congrArg (fun v => match v with | Value.slice (some a) _ _ => a.block | _ => 0) hv
      exact this
    subst eg
    intro t ht'
    rw [size_flatK] at ht'
    have z : l.toArray.size = l.length := by simp
    rw [z] at ht'
    have hi : t / 8 < l.length := by omega
    have e1 : (flatK obsC 8 l.toArray)[t]! = (obsC l[t / 8])[t % 8]! := by
      rw [get_flatK _ _ _ _ (by rw [z]; exact ht')]
      congr 2
      rw [getElem!_pos l.toArray (t / 8) (by rw [z]; exact hi)]
      simp
    have hj : t % 8 < (obsC l[t / 8]).length := by show t % 8 < 8; omega
    have e2 : (obsC l[t / 8])[t % 8]? = some ((obsC l[t / 8])[t % 8]!) := by
      rw [getElem!_pos (obsC l[t / 8]) (t % 8) hj]; exact List.getElem?_eq_getElem hj
    have e3 := flatO_get hi e2
    rw [show t / 8 * 8 + t % 8 = t by omega] at e3
    have e4 : cur[t]? = some ((obsC l[t / 8])[t % 8]!) := by
      rw [← ht] at e3
      rw [List.getElem?_take_of_lt (by omega)] at e3
      rwa [Array.getElem?_toList] at e3
    rw [e1, Nat.zero_add]
    refine ⟨?_, ?_⟩
    · unfold World.cell?
      rw [hh]
      simpa using e4
    · exact Lib.frozen_of_heap hh t
theorem obs_holds {w : World} {g : Nat} {d : Array Ob} (h : HoldsK obsC 8 w g 0 d) : ObsAt w g 0 d.toList := fun i hi j v hv => by
  have hi' : i < d.size := by simpa using hi
  have hj : j < 8 := by
    have := (List.getElem?_eq_some_iff.1 hv).1
    exact this
  have := (h.cell hi' hj).1
  rw [this]
  have e : d[i]! = d.toList[i] := by rw [getElem!_pos d i hi']; simp
  rw [e]
  have hj2 : j < (obsC d.toList[i]).length := hj
  rw [getElem!_pos (obsC d.toList[i]) j hj2]
  rw [List.getElem?_eq_getElem hj2] at hv
  exact hv
theorem below_sorted (w : World) (B g n : Nat) (d : Array Ob) (os : Array Obj) (hg : B ≤ g) (hB : B ≤ w.heap.size) : Below B w (sortWorldK obsC 8 w g 0 n d os) := by
  refine ⟨rfl, rfl, rfl, ?_, fun k hk => ?_⟩
  · show w.heap.size ≤ ((putRowK obsC 8 (Go.Sort.ahead w n) g 0 d).heap ++ os).size
    rw [Array.size_append]
    have : (putRowK obsC 8 (Go.Sort.ahead w n) g 0 d).heap.size = w.heap.size := by unfold putRowK; rw [size_putRow]; rfl
    omega
  · show ((putRowK obsC 8 (Go.Sort.ahead w n) g 0 d).heap ++ os)[k]? = w.heap[k]?
    have z : (putRowK obsC 8 (Go.Sort.ahead w n) g 0 d).heap.size = w.heap.size := by unfold putRowK; rw [size_putRow]; rfl
    rw [Array.getElem?_append_left (by omega)]
    unfold putRowK putRow mapBlock
    simp only [Array.getElem?_modify]
    rw [if_neg (by omega)]
    rfl
/-- SortFunc at a row of the call's own. -/
theorem sort_rec (B g cap : Nat) (l : List Ob) (w : World) (h : OwnR w B (.slice (some ⟨g, 0, none⟩) l.length cap) l) (hn : l ≠ []) (hg : B ≤ g) (lt : g < w.heap.size) (hl : l.length ≤ 1000000) :
    Calls Tryz.prog 65 #[.slice (some ⟨g, 0, none⟩) l.length cap, .func (.func 66) #[] #[]] w fun e w' => e = .returned (.tuple #[]) ∧ ∃ x, x.Perm l ∧ ordL x ∧ ObsAt w' g 0 x ∧ g < w'.heap.size ∧ Below B w w' := by
  have eg : ∀ args w, (callFunc 66 args).run Tryz.prog w = .ok (.enter 66 args) w := enters_of Tryz.func66 (by kernel_rfl) rfl
  have H := holds_own h hn
  have hc := AnyQ.slices_SortFunc Tryz.sortRec 8 Tryz.isAgg98 Tryz.sizeOf98 obsC (fun _ => rfl) (fun x => obsC_one x) cmpO swo_O 66 #[] g 0 cap l.toArray w eg (fun m os dk hs x y => compare_any x y _) H lt (by simp; omega)
  have z : l.toArray.size = l.length := by simp
  rw [z] at hc
  refine hc.mono ?_
  rintro e w' ⟨rfl, d', n, os, hp, hs, rfl⟩
  obtain ⟨p1, _, p2⟩ := hp
  have e1 : d'.extract 0 l.length = d' := by rw [← z, ← p1]; exact Array.extract_size
  have e2 : l.toArray.extract 0 l.length = l.toArray := by rw [← z]; exact Array.extract_size
  rw [e1, e2] at p2
  have hd := holdsK_sortWorldK obsC 8 w g 0 n l.toArray d' os lt H p1
  refine ⟨rfl, d'.toList, by simpa using p2, ?_, obs_holds hd, lt_sortWorldK obsC 8 w g 0 n d' os lt, below_sorted w B g n d' os hg h.2⟩
  unfold ordL
  rw [List.pairwise_iff_getElem]
  intro i j hi hj hij
  have hi' : i < d'.size := by simpa using hi
  have hj' : j < d'.size := by simpa using hj
  have := hs i j (Nat.zero_le _) hij (by rw [p1, z] at hj'; exact hj')
  rw [getElem!_pos d' j hj', getElem!_pos d' i hi', lt_cmp] at this
  have := of_decide_eq_false this
  have e3 := cmp_O.anti d'[i] d'[j]
  show cmpO d'.toList[i] d'.toList[j] ≤ 0
  simp only [Array.getElem_toList]
  omega
end Ow
end Go.Proofs.YtgodhaphbgllhaaGreatDoor
/-
  The walk of Sort of obs.
-/
namespace Go.Proofs.YtgodhaphbgllhaaGreatDoor
namespace Ow
open Go.RowKit Lw Go.Proofs.YtgodhaphbgllhaaGreatDoor.Ap Go.Proofs.YtgodhaphbgllhaaGreatDoor.Op Go.Proofs.YtgodhaphbgllhaaGreatDoor.Mp Go.Proofs.YtgodhaphbgllhaaGreatDoor.Mw Go.Proofs.YtgodhaphbgllhaaGreatDoor.At

theorem sort_own (B : Nat) (v : Value) (l : List Ob) (w : World) (h : OwnR w B v l) (hl : l.length ≤ 1000000) :
    Calls Tryz.prog 65 #[v, .func (.func 66) #[] #[]] w fun e w' => e = .returned (.tuple #[]) ∧ ∃ x, x.Perm l ∧ ordL x ∧ SlV w' v x ∧ Below B w w' := by
  rcases owns_form h.1 with ⟨rfl, rfl⟩ | ⟨g, cap, rfl, hg, lt, _⟩
  · refine (AnyF.slices_SortFunc_none Tryz.sortRec none 0 _ w).mono ?_
    rintro e w' ⟨rfl, rfl⟩
    exact ⟨rfl, [], List.Perm.refl _, List.Pairwise.nil, SlV.nil _, Below.refl _ _⟩
  · by_cases hn : l = []
    · subst hn
      refine (AnyF.slices_SortFunc_none Tryz.sortRec (some ⟨g, 0, none⟩) cap _ w).mono ?_
      rintro e w' ⟨rfl, rfl⟩
      exact ⟨rfl, [], List.Perm.refl _, List.Pairwise.nil, ⟨_, cap, rfl, Or.inl rfl⟩, Below.refl _ _⟩
    · refine (sort_rec B g cap l w h hn hg lt hl).mono ?_
      rintro e w' ⟨rfl, x, hp, ho, hx, lt', hb⟩
      exact ⟨rfl, x, hp, ho, ⟨some ⟨g, 0, none⟩, cap, by rw [hp.length_eq], Or.inr ⟨g, 0, rfl, lt', hx⟩⟩, hb⟩
def SortPost (l : List Ob) (w : World) (e : Ending) (w' : World) : Prop := ∃ (v : Value) (x : List Ob) (c : Int), e = .returned (.tuple #[v, .int .i64 c]) ∧ SortIs l x c ∧ SlV w' v x ∧ Below w.heap.size w w'
theorem take_snocO {l : List Ob} {k : Nat} (h : k < l.length) : l.take (k + 1) = l.take k ++ [l[k]] := List.take_succ_eq_append_getElem h
theorem infoR8 : (Tryz.prog.info? 98).map (·.size) = some 8 := by kernel_rfl
set_option maxRecDepth 100000 in
set_option maxHeartbeats 16000000 in
theorem sort_any (x : Option Addr) (cap : Nat) (l : List Ob) (w : World) (hE : ES w) (hl : SlA w x l) (hm : l.length ≤ 1000000) (hb : OBs l) :
    Calls Tryz.prog 24 #[.slice x l.length cap] w (SortPost l w) := by
  have HL := Lib.hid (fun w' (h : Below w.heap.size w w') => hl.below h)
  have CA := Lib.hid (checkall_any x cap l w hE hl hm hb)
  obtain ⟨n, hnl⟩ : ∃ n, l.length = n := ⟨_, rfl⟩
  by_cases hz : allC l = 0
  · have n5 : n ≤ 500 := by have := (allC_ok hz).1; omega
    have FIN : Hid (∀ x, x.Perm l → ordL x → SortIs l x 0) := Lib.hid (fun x h g => Or.inl ⟨hz, h, g, rfl⟩)
    rw [hz] at CA
    rw [hnl] at CA ⊢
    have NL := Lib.hid hnl
    clear hl hE hb hnl hz hm
    go_enter Tryz.func24, Tryz.ntmps24
    go_wp2_with fail
    refine CA.out.mono ?_
    rintro e w1 ⟨rfl, hb1⟩
    have B1 := Lib.hid hb1
    clear hb1 CA
    go_wp2_with fail
    go_loopw [5, 18] (fun v i wr => ∃ k : Nat, k ≤ n ∧ i = .int .i64 k ∧ Hid (OwnR wr w.heap.size v (l.take k)) ∧ Hid (Below w.heap.size w wr)) (fun _ i _ => n - (intOf i).toNat)
    case atStart => exact ⟨0, Nat.zero_le _, rfl, Lib.hid (OwnR.nil w1 _ B1.out.size), B1⟩
    case round =>
      obtain ⟨k, hk, rfl, O, B⟩ := hrel
      clear B1
      by_cases hlt : k < n
      · have hkl : k < l.length := by rw [NL.out]; exact hlt
        obtain ⟨b, off, rfl, lt, row⟩ := (HL.out _ B.out).get hkl
        have R := Lib.hid (row k hkl)
        have TK := Lib.hid (take_snocO hkl)
        have i1 : (k : Int) < (n : Int) := by omega
        have zl : (l.take k).length ≤ 1000000 := by rw [List.length_take]; omega
        clear row lt FIN
        generalize l[k]'hkl = o at *
        have bx := (Below.refl wr.heap.size wr).alloc (Nat.le_refl _) (.cells (obsC o).toArray 23)
        have X0 := Lib.hid (Box.new wr o)
        have B1 := Lib.hid (below_then B.out bx)
        have O1 := Lib.hid (O.out.below bx)
        clear B bx O
        go_wp2_with (first | (refine wpList_store_new rfl _ (.tmp 7) (.tmp 21) rfl _ _ rfl rfl info8 rfl ?_ ?_; simp [Value.oneCell']) | (refine wpList_load_mid rfl _ (.tmp 20) rfl b (off + k * 8) rfl (obsC o) _ R.out Tryz.underlying23 rfl info8 ?_) | (refine wpList_load_mid rfl _ (.tmp 7) rfl wr.heap.size 0 rfl (obsC o) _ X0.out.row Tryz.underlying23 rfl info8 ?_) | (at_builtin; refine wp_appR _ rfl (.tmp 22) (.tmp 24) rfl w.heap.size _ (l.take k) o rfl (by first | rfl | simp [Act.eval]) O1.out zl ?_; intro v' w3 hO3 hb3))
        have B3 := Lib.hid (B1.out.trans hb3)
        have O3 := Lib.hid (show OwnR w3 w.heap.size v' (l.take (k + 1)) by rw [TK.out]; exact hO3)
        clear hO3 hb3 B1 O1 X0 R TK
        go_wp2_with fail
        go_roundw
        case rel => exact ⟨k + 1, by omega, by go_num, O3, B3⟩
        case measure => simp [intOf]; omega
      · obtain rfl : k = n := by omega
        have tk : l.take k = l := by rw [← NL.out, List.take_length]
        have O1 := O.out
        rw [tk] at O1
        have ST := Lib.hid (sort_own w.heap.size _ l wr O1 (by have := NL.out; omega))
        clear HL O tk O1
        go_wp2_with fail
        refine ST.out.mono ?_
        rintro e w4 ⟨rfl, y, hp, ho, hv, hb4⟩
        have F := Lib.hid (FIN.out y hp ho)
        have zy : y.length = k := by rw [hp.length_eq]; exact NL.out
        obtain ⟨ya, yc, rfl, hy⟩ := hv
        have B4 := Lib.hid (B.out.trans hb4)
        have YL := Lib.hid (fun w' (h : Below w4.heap.size w4 w') => hy.below h)
        clear hp ho hy hb4 B ST FIN
        rw [zy]
        have ZY := Lib.hid zy
        have NI := Lib.hid (OwnO.nil w4 w4.heap.size (Nat.le_refl _))
        clear zy
        go_wp2_with fail
        go_loopw [8, 31] (fun v i wr => ∃ j : Nat, j ≤ k ∧ i = .int .i64 j ∧ Hid (OwnO wr w4.heap.size v (y.take j)) ∧ Hid (Below w4.heap.size w4 wr)) (fun _ i _ => k - (intOf i).toNat)
        case atStart => exact ⟨0, Nat.zero_le _, rfl, NI, Lib.hid (Below.refl _ _)⟩
        case round =>
          obtain ⟨j, hj, rfl, O, B⟩ := hrel
          by_cases hlt2 : j < k
          · have hjl : j < y.length := by rw [ZY.out]; exact hlt2
            obtain ⟨b, off, rfl, lt, row⟩ := (YL.out _ B.out).get hjl
            have R := Lib.hid (row j hjl)
            have TK := Lib.hid (take_snocO hjl)
            have i1 : (j : Int) < (k : Int) := by omega
            have zl : (y.take j).length ≤ 1000000 := by rw [List.length_take]; omega
            clear row lt F
            generalize y[j]'hjl = o at *
            have bx := (Below.refl wr.heap.size wr).alloc (Nat.le_refl _) (.cells (obsC o).toArray 98)
            have X0 := Lib.hid (show (wr.alloc (.cells (obsC o).toArray 98)).rangeAt wr.heap.size 0 (obsC o) from rangeAt_new wr _ _)
            have B1 := Lib.hid (below_then B.out bx)
            have O1 := Lib.hid (O.out.below bx)
            clear B bx O
            go_wp2_with (first | (refine wpList_store_new rfl _ (.tmp 10) (.tmp 34) rfl _ _ rfl rfl infoR8 rfl ?_ ?_; simp [Value.oneCell']) | (refine wpList_load_mid rfl _ (.tmp 33) rfl b (off + j * 8) rfl (obsC o) _ R.out Tryz.underlying98 rfl infoR8 ?_) | (refine wpList_load_mid rfl _ (.tmp 10) rfl wr.heap.size 0 rfl (obsC o) _ X0.out Tryz.underlying98 rfl infoR8 ?_) | (at_builtin; refine wp_app _ rfl (.tmp 35) (.tmp 37) rfl w4.heap.size _ (y.take j) o rfl (by first | rfl | simp [Act.eval]) O1.out zl ?_; intro v' w3 hO3 hb3))
            have B3 := Lib.hid (B1.out.trans hb3)
            have O3 := Lib.hid (show OwnO w3 w4.heap.size v' (y.take (j + 1)) by rw [TK.out]; exact hO3)
            clear hO3 hb3 B1 O1 X0 R TK
            go_wp2_with fail
            go_roundw
            case rel => exact ⟨j + 1, by omega, by go_num, O3, B3⟩
            case measure => simp [intOf]; omega
          · obtain rfl : j = k := by omega
            have tk : y.take j = y := by rw [← ZY.out, List.take_length]
            have O1 := O.out.1
            rw [tk] at O1
            have SV := Lib.hid (slV_of O1)
            have B5 := Lib.hid (below_then B4.out B.out)
            clear YL O O1 tk B B4
            go_wp2_with fail
            go_ret2
            exact ⟨_, y, 0, rfl, F.out, SV.out, B5.out⟩
  · have FIN := Lib.hid (show SortIs l [] (allC l) from Or.inr ⟨hz, rfl, rfl⟩)
    have hnz : (allC l != 0) = true := by rw [bne, beq_eq_false_iff_ne.2 hz]; rfl
    clear hl hE hb hnl hm HL hz
    generalize allC l = K at *
    go_enter Tryz.func24, Tryz.ntmps24
    go_wp2_with fail
    refine CA.out.mono ?_
    rintro e w1 ⟨rfl, hb1⟩
    have B1 := Lib.hid hb1
    clear hb1 CA
    go_wp2_with fail
    go_ret2
    exact ⟨_, [], K, rfl, FIN.out, SlV.nil _, B1.out⟩
end Ow
end Go.Proofs.YtgodhaphbgllhaaGreatDoor
