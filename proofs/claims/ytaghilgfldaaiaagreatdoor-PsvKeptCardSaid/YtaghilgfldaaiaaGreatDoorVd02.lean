/-
  Lemmas and walks, texts joined: OCmpW3, VTw, Shelf4, OSrt, OBackPl, OSort, VMg, ORSort, OSame.
-/
import Derived.Shelf.SlLaysF0
import Derived.Shelf.SlSortCmp.WholeK
import Derived.Shelf.SlSortCmp.NoneTotal
import Derived.Carry
import Derived.Deep.RegionHeld3
import Derived.Laws.AppendOwnNone
import Derived.Test.YtaghilgfldaaiaaGreatDoorVd01
import Derived.Test.YtaghilgfldaaiaaGreatDoorProg
import Derived.Test.YtaghilgfldaaiaaGreatDoorVb01
import Derived.Test.YtaghilgfldaaiaaGreatDoorVb02
import Derived.Test.YtaghilgfldaaiaaGreatDoorVb03
import Derived.Test.YtaghilgfldaaiaaGreatDoorVb04
import Derived.Test.YtaghilgfldaaiaaGreatDoorVb05
import Derived.Test.YtaghilgfldaaiaaGreatDoorVb06
import Derived.Test.YtaghilgfldaaiaaGreatDoorVb07
import Derived.Test.YtaghilgfldaaiaaGreatDoorVb08
import Derived.Test.YtaghilgfldaaiaaGreatDoorVb09
set_option linter.unusedSimpArgs false
set_option linter.unusedVariables false
/-
  The walk of Compare of the reference.
-/
namespace Go.Proofs.YtaghilgfldaaiaaGreatDoor
namespace Ow
open Go.RowKit Lw Go.Proofs.YtaghilgfldaaiaaGreatDoor.Ap Go.Proofs.YtaghilgfldaaiaaGreatDoor.Op Go.Proofs.YtaghilgfldaaiaaGreatDoor.Mp Go.Proofs.YtaghilgfldaaiaaGreatDoor.Mw Go.Proofs.YtaghilgfldaaiaaGreatDoor.At Go.Sort

set_option maxRecDepth 100000 in
set_option maxHeartbeats 40000000 in
theorem rcompare_any (x y : Ob) (w : World) (hx : 0 ≤ x.band ∧ x.band ≤ 255) (hy : 0 ≤ y.band ∧ y.band ≤ 255) : Calls Tryz.prog 25 #[obsV x, obsV y] w fun e w' => e = .returned (.int .i64 (cmpO x y)) ∧ Below w.heap.size w w' := by
  have L := Lib.hid (CX.new w x y 33)
  have CC := Lib.hid (fun b (w' : World) (h : w'.rangeAt b 0 (cmpC x y)) => cmpC_cell h)
  have BL := Lib.hid (show ∀ w', CX w w.heap.size x y w' → Below w.heap.size w w' from fun w' h => by
    obtain ⟨m, os, rfl⟩ := h.at_
    exact ⟨rfl, rfl, rfl, by simp [grow], fun k hk => by
      show ((w.drewN m).heap ++ os)[k]? = _
      rw [Array.getElem?_append_left (by exact hk)]; rfl⟩)
  obtain ⟨n0, s0, t0, r0, d0, g0, m0, b0⟩ := x
  obtain ⟨n1, s1, t1, r1, d1, g1, m1, b1⟩ := y
  obtain ⟨x0, x1⟩ := hx
  obtain ⟨y0, y1⟩ := hy
  simp only at x0 x1 y0 y1
  obtain ⟨cl, hcl⟩ : ∃ cl, cmpL ⟨n0, s0, t0, r0, d0, g0, m0, b0⟩ ⟨n1, s1, t1, r1, d1, g1, m1, b1⟩ = cl := ⟨_, rfl⟩
  have z8 : cl.length = 8 := by rw [← hcl]; rfl
  have E8 : Hid (∀ k (hk : k < cl.length), (∀ i (hi : i < cl.length), i < k → cl[i] = 0) → cl[k] ≠ 0 → cmpO ⟨n0, s0, t0, r0, d0, g0, m0, b0⟩ ⟨n1, s1, t1, r1, d1, g1, m1, b1⟩ = cl[k]) := Lib.hid (fun k hk h g => by subst hcl; exact orL_at hk h g)
  have E0 : Hid ((∀ i (hi : i < cl.length), cl[i] = 0) → cmpO ⟨n0, s0, t0, r0, d0, g0, m0, b0⟩ ⟨n1, s1, t1, r1, d1, g1, m1, b1⟩ = 0) := Lib.hid (fun h => by subst hcl; exact orL_zero h)
  clear CC
  have CC := Lib.hid (show ∀ b (w' : World), w'.rangeAt b 0 (cmpC ⟨n0, s0, t0, r0, d0, g0, m0, b0⟩ ⟨n1, s1, t1, r1, d1, g1, m1, b1⟩) → ∀ i (hi : i < cl.length), w'.cell? ⟨b, i, none⟩ = some (.int .i64 (cl[i]'hi)) from fun b w' h => by subst hcl; exact cmpC_cell h)
  clear hcl
  generalize cmpO ⟨n0, s0, t0, r0, d0, g0, m0, b0⟩ ⟨n1, s1, t1, r1, d1, g1, m1, b1⟩ = K at *
  have wx : IntKind.i64.wrap b0 = b0 := wrap_small _ (by omega) (by omega)
  have wy : IntKind.i64.wrap b1 = b1 := wrap_small _ (by omega) (by omega)
  go_enter Tryz.func25, Tryz.ntmps25
  go_wp2_with fail
  refine wp_region_held_drew (S := CX w w.heap.size ⟨n0, s0, t0, r0, d0, g0, m0, b0⟩ ⟨n1, s1, t1, r1, d1, g1, m1, b1⟩) (by kernel_rfl) L.out.drew (fun hHeld => ?_)
  clear L
  refine wpAnyH_take (i := 0) (oi := ?oi0x34) (v := ?v0x34) ?hi0x34 (by kernel_rfl) (by kernel_rfl) (by kernel_rfl) ?hq0x34 ?hy0x34 hHeld ?rest0x34
  case hi0x34 => ((try simp only [List.getElem?_toArray, List.getElem?_cons_succ, List.getElem?_cons_zero]); (try rfl))
  case hq0x34 => exact fun _ _ _ h => h
  case hy0x34 => exact Or.inl ⟨by rfl, by intro w hSw; clear hSw; go_simp; try with_reducible rfl⟩
  try simp only [Act.put, List.setIfInBounds_toArray, List.set_cons_zero, List.set_cons_succ]
  refine wpAnyH_take (i := 1) (oi := ?oi1x35) (v := ?v1x35) ?hi1x35 (by kernel_rfl) (by kernel_rfl) (by kernel_rfl) ?hq1x35 ?hy1x35 hHeld ?rest1x35
  case hi1x35 => ((try simp only [List.getElem?_toArray, List.getElem?_cons_succ, List.getElem?_cons_zero]); (try rfl))
  case hq1x35 => exact fun _ _ _ h => h
  case hy1x35 => exact Or.inl ⟨by rfl, by intro w hSw; have q := (CX.rx hSw) 2 _ rfl; clear hSw; simp only [Nat.zero_add] at q; go_simp; try with_reducible rfl⟩
  try simp only [Act.put, List.setIfInBounds_toArray, List.set_cons_zero, List.set_cons_succ]
  refine wpAnyH_take (i := 2) (oi := ?oi2x36) (v := ?v2x36) ?hi2x36 (by kernel_rfl) (by kernel_rfl) (by kernel_rfl) ?hq2x36 ?hy2x36 hHeld ?rest2x36
  case hi2x36 => ((try simp only [List.getElem?_toArray, List.getElem?_cons_succ, List.getElem?_cons_zero]); (try rfl))
  case hq2x36 => exact fun _ _ _ h => h
  case hy2x36 => exact Or.inl ⟨by rfl, by intro w hSw; clear hSw; go_simp; try with_reducible rfl⟩
  try simp only [Act.put, List.setIfInBounds_toArray, List.set_cons_zero, List.set_cons_succ]
  refine wpAnyH_take (i := 3) (oi := ?oi3x37) (v := ?v3x37) ?hi3x37 (by kernel_rfl) (by kernel_rfl) (by kernel_rfl) ?hq3x37 ?hy3x37 hHeld ?rest3x37
  case hi3x37 => ((try simp only [List.getElem?_toArray, List.getElem?_cons_succ, List.getElem?_cons_zero]); (try rfl))
  case hq3x37 => exact fun _ _ _ h => h
  case hy3x37 => exact Or.inl ⟨by rfl, by intro w hSw; have q := (CX.ry hSw) 2 _ rfl; clear hSw; simp only [Nat.zero_add] at q; go_simp; try with_reducible rfl⟩
  try simp only [Act.put, List.setIfInBounds_toArray, List.set_cons_zero, List.set_cons_succ]
  refine wpAnyH_take (i := 5) (oi := ?oi5x38) (v := ?v5x38) ?hi5x38 (by kernel_rfl) (by kernel_rfl) (by kernel_rfl) ?hq5x38 ?hy5x38 hHeld ?rest5x38
  case hi5x38 => ((try simp only [List.getElem?_toArray, List.getElem?_cons_succ, List.getElem?_cons_zero]); (try rfl))
  case hq5x38 => exact fun _ _ _ h => h
  case hy5x38 => exact Or.inl ⟨by rfl, by intro w hSw; clear hSw; go_simp; try with_reducible rfl⟩
  try simp only [Act.put, List.setIfInBounds_toArray, List.set_cons_zero, List.set_cons_succ]
  refine wpAnyH_take (i := 6) (oi := ?oi6x39) (v := ?v6x39) ?hi6x39 (by kernel_rfl) (by kernel_rfl) (by kernel_rfl) ?hq6x39 ?hy6x39 hHeld ?rest6x39
  case hi6x39 => ((try simp only [List.getElem?_toArray, List.getElem?_cons_succ, List.getElem?_cons_zero]); (try rfl))
  case hq6x39 => exact fun _ _ _ h => h
  case hy6x39 => exact Or.inl ⟨by rfl, by intro w hSw; have q := (CX.rx hSw) 1 _ rfl; clear hSw; simp only [Nat.zero_add] at q; go_simp; try with_reducible rfl⟩
  try simp only [Act.put, List.setIfInBounds_toArray, List.set_cons_zero, List.set_cons_succ]
  refine wpAnyH_take (i := 7) (oi := ?oi7x40) (v := ?v7x40) ?hi7x40 (by kernel_rfl) (by kernel_rfl) (by kernel_rfl) ?hq7x40 ?hy7x40 hHeld ?rest7x40
  case hi7x40 => ((try simp only [List.getElem?_toArray, List.getElem?_cons_succ, List.getElem?_cons_zero]); (try rfl))
  case hq7x40 => exact fun _ _ _ h => h
  case hy7x40 => exact Or.inl ⟨by rfl, by intro w hSw; clear hSw; go_simp; try with_reducible rfl⟩
  try simp only [Act.put, List.setIfInBounds_toArray, List.set_cons_zero, List.set_cons_succ]
  refine wpAnyH_take (i := 8) (oi := ?oi8x41) (v := ?v8x41) ?hi8x41 (by kernel_rfl) (by kernel_rfl) (by kernel_rfl) ?hq8x41 ?hy8x41 hHeld ?rest8x41
  case hi8x41 => ((try simp only [List.getElem?_toArray, List.getElem?_cons_succ, List.getElem?_cons_zero]); (try rfl))
  case hq8x41 => exact fun _ _ _ h => h
  case hy8x41 => exact Or.inl ⟨by rfl, by intro w hSw; have q := (CX.ry hSw) 1 _ rfl; clear hSw; simp only [Nat.zero_add] at q; go_simp; try with_reducible rfl⟩
  try simp only [Act.put, List.setIfInBounds_toArray, List.set_cons_zero, List.set_cons_succ]
  refine wpAnyH_take (i := 10) (oi := ?oi10x42) (v := ?v10x42) ?hi10x42 (by kernel_rfl) (by kernel_rfl) (by kernel_rfl) ?hq10x42 ?hy10x42 hHeld ?rest10x42
  case hi10x42 => ((try simp only [List.getElem?_toArray, List.getElem?_cons_succ, List.getElem?_cons_zero]); (try rfl))
  case hq10x42 => exact fun _ _ _ h => h
  case hy10x42 => exact Or.inl ⟨by rfl, by intro w hSw; clear hSw; go_simp; try with_reducible rfl⟩
  try simp only [Act.put, List.setIfInBounds_toArray, List.set_cons_zero, List.set_cons_succ]
  refine wpAnyH_take (i := 11) (oi := ?oi11x43) (v := ?v11x43) ?hi11x43 (by kernel_rfl) (by kernel_rfl) (by kernel_rfl) ?hq11x43 ?hy11x43 hHeld ?rest11x43
  case hi11x43 => ((try simp only [List.getElem?_toArray, List.getElem?_cons_succ, List.getElem?_cons_zero]); (try rfl))
  case hq11x43 => exact fun _ _ _ h => h
  case hy11x43 => exact Or.inl ⟨by rfl, by intro w hSw; have q := (CX.rx hSw) 0 _ rfl; clear hSw; simp only [Nat.zero_add] at q; go_simp; try with_reducible rfl⟩
  try simp only [Act.put, List.setIfInBounds_toArray, List.set_cons_zero, List.set_cons_succ]
  refine wpAnyH_take (i := 12) (oi := ?oi12x44) (v := ?v12x44) ?hi12x44 (by kernel_rfl) (by kernel_rfl) (by kernel_rfl) ?hq12x44 ?hy12x44 hHeld ?rest12x44
  case hi12x44 => ((try simp only [List.getElem?_toArray, List.getElem?_cons_succ, List.getElem?_cons_zero]); (try rfl))
  case hq12x44 => exact fun _ _ _ h => h
  case hy12x44 => exact Or.inl ⟨by rfl, by intro w hSw; clear hSw; go_simp; try with_reducible rfl⟩
  try simp only [Act.put, List.setIfInBounds_toArray, List.set_cons_zero, List.set_cons_succ]
  refine wpAnyH_take (i := 13) (oi := ?oi13x45) (v := ?v13x45) ?hi13x45 (by kernel_rfl) (by kernel_rfl) (by kernel_rfl) ?hq13x45 ?hy13x45 hHeld ?rest13x45
  case hi13x45 => ((try simp only [List.getElem?_toArray, List.getElem?_cons_succ, List.getElem?_cons_zero]); (try rfl))
  case hq13x45 => exact fun _ _ _ h => h
  case hy13x45 => exact Or.inl ⟨by rfl, by intro w hSw; have q := (CX.ry hSw) 0 _ rfl; clear hSw; simp only [Nat.zero_add] at q; go_simp; try with_reducible rfl⟩
  try simp only [Act.put, List.setIfInBounds_toArray, List.set_cons_zero, List.set_cons_succ]
  refine wpAnyH_take (i := 15) (oi := ?oi15x46) (v := ?v15x46) ?hi15x46 (by kernel_rfl) (by kernel_rfl) (by kernel_rfl) ?hq15x46 ?hy15x46 hHeld ?rest15x46
  case hi15x46 => ((try simp only [List.getElem?_toArray, List.getElem?_cons_succ, List.getElem?_cons_zero]); (try rfl))
  case hq15x46 => exact fun _ _ _ h => h
  case hy15x46 => exact Or.inl ⟨by rfl, by intro w hSw; clear hSw; go_simp; try with_reducible rfl⟩
  try simp only [Act.put, List.setIfInBounds_toArray, List.set_cons_zero, List.set_cons_succ]
  refine wpAnyH_take (i := 16) (oi := ?oi16x47) (v := ?v16x47) ?hi16x47 (by kernel_rfl) (by kernel_rfl) (by kernel_rfl) ?hq16x47 ?hy16x47 hHeld ?rest16x47
  case hi16x47 => ((try simp only [List.getElem?_toArray, List.getElem?_cons_succ, List.getElem?_cons_zero]); (try rfl))
  case hq16x47 => exact fun _ _ _ h => h
  case hy16x47 => exact Or.inl ⟨by rfl, by intro w hSw; have q := (CX.rx hSw) 3 _ rfl; clear hSw; simp only [Nat.zero_add] at q; go_simp; try with_reducible rfl⟩
  try simp only [Act.put, List.setIfInBounds_toArray, List.set_cons_zero, List.set_cons_succ]
  refine wpAnyH_take (i := 17) (oi := ?oi17x48) (v := ?v17x48) ?hi17x48 (by kernel_rfl) (by kernel_rfl) (by kernel_rfl) ?hq17x48 ?hy17x48 hHeld ?rest17x48
  case hi17x48 => ((try simp only [List.getElem?_toArray, List.getElem?_cons_succ, List.getElem?_cons_zero]); (try rfl))
  case hq17x48 => exact fun _ _ _ h => h
  case hy17x48 => exact Or.inl ⟨by rfl, by intro w hSw; clear hSw; go_simp; try with_reducible rfl⟩
  try simp only [Act.put, List.setIfInBounds_toArray, List.set_cons_zero, List.set_cons_succ]
  refine wpAnyH_take (i := 18) (oi := ?oi18x49) (v := ?v18x49) ?hi18x49 (by kernel_rfl) (by kernel_rfl) (by kernel_rfl) ?hq18x49 ?hy18x49 hHeld ?rest18x49
  case hi18x49 => ((try simp only [List.getElem?_toArray, List.getElem?_cons_succ, List.getElem?_cons_zero]); (try rfl))
  case hq18x49 => exact fun _ _ _ h => h
  case hy18x49 => exact Or.inl ⟨by rfl, by intro w hSw; have q := (CX.ry hSw) 3 _ rfl; clear hSw; simp only [Nat.zero_add] at q; go_simp; try with_reducible rfl⟩
  try simp only [Act.put, List.setIfInBounds_toArray, List.set_cons_zero, List.set_cons_succ]
  refine wpAnyH_take (i := 20) (oi := ?oi20x50) (v := ?v20x50) ?hi20x50 (by kernel_rfl) (by kernel_rfl) (by kernel_rfl) ?hq20x50 ?hy20x50 hHeld ?rest20x50
  case hi20x50 => ((try simp only [List.getElem?_toArray, List.getElem?_cons_succ, List.getElem?_cons_zero]); (try rfl))
  case hq20x50 => exact fun _ _ _ h => h
  case hy20x50 => exact Or.inl ⟨by rfl, by intro w hSw; clear hSw; go_simp; try with_reducible rfl⟩
  try simp only [Act.put, List.setIfInBounds_toArray, List.set_cons_zero, List.set_cons_succ]
  refine wpAnyH_take (i := 21) (oi := ?oi21x51) (v := ?v21x51) ?hi21x51 (by kernel_rfl) (by kernel_rfl) (by kernel_rfl) ?hq21x51 ?hy21x51 hHeld ?rest21x51
  case hi21x51 => ((try simp only [List.getElem?_toArray, List.getElem?_cons_succ, List.getElem?_cons_zero]); (try rfl))
  case hq21x51 => exact fun _ _ _ h => h
  case hy21x51 => exact Or.inl ⟨by rfl, by intro w hSw; have q := (CX.rx hSw) 4 _ rfl; clear hSw; simp only [Nat.zero_add] at q; go_simp; try with_reducible rfl⟩
  try simp only [Act.put, List.setIfInBounds_toArray, List.set_cons_zero, List.set_cons_succ]
  refine wpAnyH_take (i := 22) (oi := ?oi22x52) (v := ?v22x52) ?hi22x52 (by kernel_rfl) (by kernel_rfl) (by kernel_rfl) ?hq22x52 ?hy22x52 hHeld ?rest22x52
  case hi22x52 => ((try simp only [List.getElem?_toArray, List.getElem?_cons_succ, List.getElem?_cons_zero]); (try rfl))
  case hq22x52 => exact fun _ _ _ h => h
  case hy22x52 => exact Or.inl ⟨by rfl, by intro w hSw; clear hSw; go_simp; try with_reducible rfl⟩
  try simp only [Act.put, List.setIfInBounds_toArray, List.set_cons_zero, List.set_cons_succ]
  refine wpAnyH_take (i := 23) (oi := ?oi23x53) (v := ?v23x53) ?hi23x53 (by kernel_rfl) (by kernel_rfl) (by kernel_rfl) ?hq23x53 ?hy23x53 hHeld ?rest23x53
  case hi23x53 => ((try simp only [List.getElem?_toArray, List.getElem?_cons_succ, List.getElem?_cons_zero]); (try rfl))
  case hq23x53 => exact fun _ _ _ h => h
  case hy23x53 => exact Or.inl ⟨by rfl, by intro w hSw; have q := (CX.ry hSw) 4 _ rfl; clear hSw; simp only [Nat.zero_add] at q; go_simp; try with_reducible rfl⟩
  try simp only [Act.put, List.setIfInBounds_toArray, List.set_cons_zero, List.set_cons_succ]
  refine wpAnyH_take (i := 25) (oi := ?oi25x54) (v := ?v25x54) ?hi25x54 (by kernel_rfl) (by kernel_rfl) (by kernel_rfl) ?hq25x54 ?hy25x54 hHeld ?rest25x54
  case hi25x54 => ((try simp only [List.getElem?_toArray, List.getElem?_cons_succ, List.getElem?_cons_zero]); (try rfl))
  case hq25x54 => exact fun _ _ _ h => h
  case hy25x54 => exact Or.inl ⟨by rfl, by intro w hSw; clear hSw; go_simp; try with_reducible rfl⟩
  try simp only [Act.put, List.setIfInBounds_toArray, List.set_cons_zero, List.set_cons_succ]
  refine wpAnyH_take (i := 26) (oi := ?oi26x55) (v := ?v26x55) ?hi26x55 (by kernel_rfl) (by kernel_rfl) (by kernel_rfl) ?hq26x55 ?hy26x55 hHeld ?rest26x55
  case hi26x55 => ((try simp only [List.getElem?_toArray, List.getElem?_cons_succ, List.getElem?_cons_zero]); (try rfl))
  case hq26x55 => exact fun _ _ _ h => h
  case hy26x55 => exact Or.inl ⟨by rfl, by intro w hSw; have q := (CX.rx hSw) 5 _ rfl; clear hSw; simp only [Nat.zero_add] at q; go_simp; try with_reducible rfl⟩
  try simp only [Act.put, List.setIfInBounds_toArray, List.set_cons_zero, List.set_cons_succ]
  refine wpAnyH_take (i := 27) (oi := ?oi27x56) (v := ?v27x56) ?hi27x56 (by kernel_rfl) (by kernel_rfl) (by kernel_rfl) ?hq27x56 ?hy27x56 hHeld ?rest27x56
  case hi27x56 => ((try simp only [List.getElem?_toArray, List.getElem?_cons_succ, List.getElem?_cons_zero]); (try rfl))
  case hq27x56 => exact fun _ _ _ h => h
  case hy27x56 => exact Or.inl ⟨by rfl, by intro w hSw; clear hSw; go_simp; try with_reducible rfl⟩
  try simp only [Act.put, List.setIfInBounds_toArray, List.set_cons_zero, List.set_cons_succ]
  refine wpAnyH_take (i := 28) (oi := ?oi28x57) (v := ?v28x57) ?hi28x57 (by kernel_rfl) (by kernel_rfl) (by kernel_rfl) ?hq28x57 ?hy28x57 hHeld ?rest28x57
  case hi28x57 => ((try simp only [List.getElem?_toArray, List.getElem?_cons_succ, List.getElem?_cons_zero]); (try rfl))
  case hq28x57 => exact fun _ _ _ h => h
  case hy28x57 => exact Or.inl ⟨by rfl, by intro w hSw; have q := (CX.ry hSw) 5 _ rfl; clear hSw; simp only [Nat.zero_add] at q; go_simp; try with_reducible rfl⟩
  try simp only [Act.put, List.setIfInBounds_toArray, List.set_cons_zero, List.set_cons_succ]
  refine wpAnyH_take (i := 30) (oi := ?oi30x58) (v := ?v30x58) ?hi30x58 (by kernel_rfl) (by kernel_rfl) (by kernel_rfl) ?hq30x58 ?hy30x58 hHeld ?rest30x58
  case hi30x58 => ((try simp only [List.getElem?_toArray, List.getElem?_cons_succ, List.getElem?_cons_zero]); (try rfl))
  case hq30x58 => exact fun _ _ _ h => h
  case hy30x58 => exact Or.inl ⟨by rfl, by intro w hSw; clear hSw; go_simp; try with_reducible rfl⟩
  try simp only [Act.put, List.setIfInBounds_toArray, List.set_cons_zero, List.set_cons_succ]
  refine wpAnyH_take (i := 31) (oi := ?oi31x59) (v := ?v31x59) ?hi31x59 (by kernel_rfl) (by kernel_rfl) (by kernel_rfl) ?hq31x59 ?hy31x59 hHeld ?rest31x59
  case hi31x59 => ((try simp only [List.getElem?_toArray, List.getElem?_cons_succ, List.getElem?_cons_zero]); (try rfl))
  case hq31x59 => exact fun _ _ _ h => h
  case hy31x59 => exact Or.inl ⟨by rfl, by intro w hSw; have q := (CX.rx hSw) 6 _ rfl; clear hSw; simp only [Nat.zero_add] at q; go_simp; try with_reducible rfl⟩
  try simp only [Act.put, List.setIfInBounds_toArray, List.set_cons_zero, List.set_cons_succ]
  refine wpAnyH_take (i := 32) (oi := ?oi32x60) (v := ?v32x60) ?hi32x60 (by kernel_rfl) (by kernel_rfl) (by kernel_rfl) ?hq32x60 ?hy32x60 hHeld ?rest32x60
  case hi32x60 => ((try simp only [List.getElem?_toArray, List.getElem?_cons_succ, List.getElem?_cons_zero]); (try rfl))
  case hq32x60 => exact fun _ _ _ h => h
  case hy32x60 => exact Or.inl ⟨by rfl, by intro w hSw; clear hSw; go_simp; try with_reducible rfl⟩
  try simp only [Act.put, List.setIfInBounds_toArray, List.set_cons_zero, List.set_cons_succ]
  refine wpAnyH_take (i := 33) (oi := ?oi33x61) (v := ?v33x61) ?hi33x61 (by kernel_rfl) (by kernel_rfl) (by kernel_rfl) ?hq33x61 ?hy33x61 hHeld ?rest33x61
  case hi33x61 => ((try simp only [List.getElem?_toArray, List.getElem?_cons_succ, List.getElem?_cons_zero]); (try rfl))
  case hq33x61 => exact fun _ _ _ h => h
  case hy33x61 => exact Or.inl ⟨by rfl, by intro w hSw; have q := (CX.ry hSw) 6 _ rfl; clear hSw; simp only [Nat.zero_add] at q; go_simp; try with_reducible rfl⟩
  try simp only [Act.put, List.setIfInBounds_toArray, List.set_cons_zero, List.set_cons_succ]
  refine wpAnyH_take (i := 35) (oi := ?oi35x62) (v := ?v35x62) ?hi35x62 (by kernel_rfl) (by kernel_rfl) (by kernel_rfl) ?hq35x62 ?hy35x62 hHeld ?rest35x62
  case hi35x62 => ((try simp only [List.getElem?_toArray, List.getElem?_cons_succ, List.getElem?_cons_zero]); (try rfl))
  case hq35x62 => exact fun _ _ _ h => h
  case hy35x62 => exact Or.inl ⟨by rfl, by intro w hSw; clear hSw; go_simp; try with_reducible rfl⟩
  try simp only [Act.put, List.setIfInBounds_toArray, List.set_cons_zero, List.set_cons_succ]
  refine wpAnyH_take (i := 36) (oi := ?oi36x63) (v := ?v36x63) ?hi36x63 (by kernel_rfl) (by kernel_rfl) (by kernel_rfl) ?hq36x63 ?hy36x63 hHeld ?rest36x63
  case hi36x63 => ((try simp only [List.getElem?_toArray, List.getElem?_cons_succ, List.getElem?_cons_zero]); (try rfl))
  case hq36x63 => exact fun _ _ _ h => h
  case hy36x63 => exact Or.inl ⟨by rfl, by intro w hSw; have q := (CX.rx hSw) 7 _ rfl; clear hSw; simp only [Nat.zero_add] at q; go_simp; try with_reducible rfl⟩
  try simp only [Act.put, List.setIfInBounds_toArray, List.set_cons_zero, List.set_cons_succ]
  refine wpAnyH_take (i := 37) (oi := ?oi37x64) (v := ?v37x64) ?hi37x64 (by kernel_rfl) (by kernel_rfl) (by kernel_rfl) ?hq37x64 ?hy37x64 hHeld ?rest37x64
  case hi37x64 => ((try simp only [List.getElem?_toArray, List.getElem?_cons_succ, List.getElem?_cons_zero]); (try rfl))
  case hq37x64 => exact fun _ _ _ h => h
  case hy37x64 => exact Or.inl ⟨by rfl, by intro w hSw; clear hSw; go_simp; try with_reducible rfl⟩
  try simp only [Act.put, List.setIfInBounds_toArray, List.set_cons_zero, List.set_cons_succ]
  refine wpAnyH_take (i := 38) (oi := ?oi38x65) (v := ?v38x65) ?hi38x65 (by kernel_rfl) (by kernel_rfl) (by kernel_rfl) ?hq38x65 ?hy38x65 hHeld ?rest38x65
  case hi38x65 => ((try simp only [List.getElem?_toArray, List.getElem?_cons_succ, List.getElem?_cons_zero]); (try rfl))
  case hq38x65 => exact fun _ _ _ h => h
  case hy38x65 => exact Or.inl ⟨by rfl, by intro w hSw; clear hSw; go_simp; try with_reducible rfl⟩
  try simp only [Act.put, List.setIfInBounds_toArray, List.set_cons_zero, List.set_cons_succ]
  refine wpAnyH_take (i := 39) (oi := ?oi39x66) (v := ?v39x66) ?hi39x66 (by kernel_rfl) (by kernel_rfl) (by kernel_rfl) ?hq39x66 ?hy39x66 hHeld ?rest39x66
  case hi39x66 => ((try simp only [List.getElem?_toArray, List.getElem?_cons_succ, List.getElem?_cons_zero]); (try rfl))
  case hq39x66 => exact fun _ _ _ h => h
  case hy39x66 => exact Or.inl ⟨by rfl, by intro w hSw; have q := (CX.ry hSw) 7 _ rfl; clear hSw; simp only [Nat.zero_add] at q; go_simp; try with_reducible rfl⟩
  try simp only [Act.put, List.setIfInBounds_toArray, List.set_cons_zero, List.set_cons_succ]
  refine wpAnyH_take (i := 40) (oi := ?oi40x67) (v := ?v40x67) ?hi40x67 (by kernel_rfl) (by kernel_rfl) (by kernel_rfl) ?hq40x67 ?hy40x67 hHeld ?rest40x67
  case hi40x67 => ((try simp only [List.getElem?_toArray, List.getElem?_cons_succ, List.getElem?_cons_zero]); (try rfl))
  case hq40x67 => exact fun _ _ _ h => h
  case hy40x67 => exact Or.inl ⟨by rfl, by intro w hSw; clear hSw; go_simp; try with_reducible rfl⟩
  try simp only [Act.put, List.setIfInBounds_toArray, List.set_cons_zero, List.set_cons_succ]
  refine wpAnyH_ready (rs := [4]) (by kernel_rfl) (by simp) ?_
  refine AllReadyH.cons rfl (fun K' hK => ?_) AllReadyH.nil
  have H1 := Lib.hid hHeld
  clear hHeld
  go_simp
  refine (number_any _ _ _).mono ?_
  rintro e w9 ⟨rfl, rfl⟩
  refine hK.out _ _ H1.out (fun hHeld => ?_)
  clear hK H1
  try simp only [Act.put, List.setIfInBounds_toArray, List.set_cons_zero, List.set_cons_succ]
  refine wpAnyH_ready (rs := [9]) (by kernel_rfl) (by simp) ?_
  refine AllReadyH.cons rfl (fun K' hK => ?_) AllReadyH.nil
  have H1 := Lib.hid hHeld
  clear hHeld
  go_simp
  refine (text_any _ _ _).mono ?_
  rintro e w9 ⟨rfl, rfl⟩
  refine hK.out _ _ H1.out (fun hHeld => ?_)
  clear hK H1
  try simp only [Act.put, List.setIfInBounds_toArray, List.set_cons_zero, List.set_cons_succ]
  refine wpAnyH_ready (rs := [14]) (by kernel_rfl) (by simp) ?_
  refine AllReadyH.cons rfl (fun K' hK => ?_) AllReadyH.nil
  have H1 := Lib.hid hHeld
  clear hHeld
  go_simp
  refine (text_any _ _ _).mono ?_
  rintro e w9 ⟨rfl, rfl⟩
  refine hK.out _ _ H1.out (fun hHeld => ?_)
  clear hK H1
  try simp only [Act.put, List.setIfInBounds_toArray, List.set_cons_zero, List.set_cons_succ]
  refine wpAnyH_ready (rs := [19]) (by kernel_rfl) (by simp) ?_
  refine AllReadyH.cons rfl (fun K' hK => ?_) AllReadyH.nil
  have H1 := Lib.hid hHeld
  clear hHeld
  go_simp
  refine (number_any _ _ _).mono ?_
  rintro e w9 ⟨rfl, rfl⟩
  refine hK.out _ _ H1.out (fun hHeld => ?_)
  clear hK H1
  try simp only [Act.put, List.setIfInBounds_toArray, List.set_cons_zero, List.set_cons_succ]
  refine wpAnyH_ready (rs := [24]) (by kernel_rfl) (by simp) ?_
  refine AllReadyH.cons rfl (fun K' hK => ?_) AllReadyH.nil
  have H1 := Lib.hid hHeld
  clear hHeld
  go_simp
  refine (number_any _ _ _).mono ?_
  rintro e w9 ⟨rfl, rfl⟩
  refine hK.out _ _ H1.out (fun hHeld => ?_)
  clear hK H1
  try simp only [Act.put, List.setIfInBounds_toArray, List.set_cons_zero, List.set_cons_succ]
  refine wpAnyH_ready (rs := [29]) (by kernel_rfl) (by simp) ?_
  refine AllReadyH.cons rfl (fun K' hK => ?_) AllReadyH.nil
  have H1 := Lib.hid hHeld
  clear hHeld
  go_simp
  refine (number_any _ _ _).mono ?_
  rintro e w9 ⟨rfl, rfl⟩
  refine hK.out _ _ H1.out (fun hHeld => ?_)
  clear hK H1
  try simp only [Act.put, List.setIfInBounds_toArray, List.set_cons_zero, List.set_cons_succ]
  refine wpAnyH_ready (rs := [34]) (by kernel_rfl) (by simp) ?_
  refine AllReadyH.cons rfl (fun K' hK => ?_) AllReadyH.nil
  have H1 := Lib.hid hHeld
  clear hHeld
  go_simp
  refine (number_any _ _ _).mono ?_
  rintro e w9 ⟨rfl, rfl⟩
  refine hK.out _ _ H1.out (fun hHeld => ?_)
  clear hK H1
  try simp only [Act.put, List.setIfInBounds_toArray, List.set_cons_zero, List.set_cons_succ]
  refine wpAnyH_ready (rs := [41]) (by kernel_rfl) (by simp) ?_
  refine AllReadyH.cons rfl (fun K' hK => ?_) AllReadyH.nil
  have H1 := Lib.hid hHeld
  clear hHeld
  go_simp
  refine (number_any _ _ _).mono ?_
  rintro e w9 ⟨rfl, rfl⟩
  refine hK.out _ _ H1.out (fun hHeld => ?_)
  clear hK H1
  try simp only [Act.put, List.setIfInBounds_toArray, List.set_cons_zero, List.set_cons_succ]
  refine wpAnyH_ready (rs := [42]) (by kernel_rfl) (by simp) ?_
  refine AllReadyH.cons rfl (fun K' hK => ?_) AllReadyH.nil
  have H1 := Lib.hid hHeld
  clear hHeld
  go_simp
  refine hK.out _ _ (H1.out.alloc _) (fun hHeld => ?_)
  clear hK H1
  try simp only [Act.put, List.setIfInBounds_toArray, List.set_cons_zero, List.set_cons_succ]
  refine wpAnyH_take (i := 43) (oi := ?oi43x68) (v := ?v43x68) ?hi43x68 (by kernel_rfl) (by kernel_rfl) (by kernel_rfl) ?hq43x68 ?hy43x68 hHeld ?rest43x68
  case hi43x68 => ((try simp only [List.getElem?_toArray, List.getElem?_cons_succ, List.getElem?_cons_zero]); (try rfl))
  case hq43x68 => exact fun _ _ _ h => h
  case hy43x68 => exact Or.inl ⟨by rfl, by intro w hSw; clear hSw; go_simp; try with_reducible rfl⟩
  try simp only [Act.put, List.setIfInBounds_toArray, List.set_cons_zero, List.set_cons_succ]
  refine wpAnyH_done (by kernel_rfl) ?_ _
  have B0 := Lib.hid (BL.out _ hHeld)
  have CL := Lib.hid (CC.out _ _ (row3 w (.cells (obsC ⟨n0, s0, t0, r0, d0, g0, m0, b0⟩).toArray 33) (.cells (obsC ⟨n1, s1, t1, r1, d1, g1, m1, b1⟩).toArray 33) (cmpC ⟨n0, s0, t0, r0, d0, g0, m0, b0⟩ ⟨n1, s1, t1, r1, d1, g1, m1, b1⟩) 3))
  clear hHeld BL CC
  generalize (((w.alloc (.cells (obsC ⟨n0, s0, t0, r0, d0, g0, m0, b0⟩).toArray 33)).alloc (.cells (obsC ⟨n1, s1, t1, r1, d1, g1, m1, b1⟩).toArray 33)).alloc (.cells (cmpC ⟨n0, s0, t0, r0, d0, g0, m0, b0⟩ ⟨n1, s1, t1, r1, d1, g1, m1, b1⟩).toArray 3)).drew = W9 at *
  have Z8 := Lib.hid z8
  clear z8
  go_wp2_with fail
  go_loop [6] (fun i => ∃ k : Nat, k ≤ 8 ∧ i = .int .i64 k ∧ Hid (∀ j (h : j < cl.length), j < k → cl[j] = 0)) (fun i => 8 - (intOf i).toNat)
  case atStart => exact ⟨0, Nat.zero_le _, rfl, Lib.hid (fun j _ h => by omega)⟩
  case round =>
    obtain ⟨k, hk, rfl, D⟩ := hrel
    by_cases hlt : k < 8
    · have hkl : k < cl.length := by rw [Z8.out]; exact hlt
      have c0 := CL.out k hkl
      have i1 : (k : Int) < 8 := by omega
      by_cases hz : cl[k] = 0
      · have DK := Lib.hid (show ∀ j (h : j < cl.length), j < k + 1 → cl[j] = 0 from fun j h hj => by
          by_cases e : j = k
          · subst e; exact hz
          · exact D.out j h (by omega))
        rw [hz] at c0
        clear D E8 E0 hz
        go_wp2_with fail
        go_round
        case rel => exact ⟨k + 1, by omega, by go_num, DK⟩
        case measure => simp [intOf]; omega
      · have E := Lib.hid (E8.out k hkl D.out hz)
        generalize cl[k]'hkl = v at *
        have hz2 : (v != 0) = true := by rw [bne, beq_eq_false_iff_ne.2 hz]; rfl
        clear D E8 E0
        go_wp2_with fail
        go_ret
        exact ⟨by rw [E.out]; rfl, B0.out⟩
    · obtain rfl : k = 8 := by omega
      have E := Lib.hid (E0.out (fun i hi => D.out i hi (by have := Z8.out; omega)))
      clear E8 E0 D
      go_wp2_with fail
      go_ret
      exact ⟨by rw [E.out]; rfl, B0.out⟩
end Ow
end Go.Proofs.YtaghilgfldaaiaaGreatDoor
/-
  The walks of Twins and better of the reference.
-/
namespace Go.Proofs.YtaghilgfldaaiaaGreatDoor
namespace Vw
open Go.RowKit Lw Go.Proofs.YtaghilgfldaaiaaGreatDoor.Ap Go.Proofs.YtaghilgfldaaiaaGreatDoor.Vp Go.Proofs.YtaghilgfldaaiaaGreatDoor.Op Go.Proofs.YtaghilgfldaaiaaGreatDoor.Ow Go.Proofs.YtaghilgfldaaiaaGreatDoor.Mp Go.Proofs.YtaghilgfldaaiaaGreatDoor.Mw Go.Proofs.YtaghilgfldaaiaaGreatDoor.At

theorem bs_ne {a b : ByteArray} (h : a ≠ b) : (a.toList == b.toList) = false := beq_eq_false_iff_ne.2 (fun e => h (by rw [ByteArray.toList_eq, ByteArray.toList_eq] at e; exact toL_inj e))
theorem bs_eq {a b : ByteArray} (h : a = b) : (a.toList == b.toList) = true := by rw [h]; exact beq_self_eq_true _
/-- Two boxes. -/
theorem boxes2 (w : World) (a b : Ob) : ∃ v, (w.alloc (.cells (obsC a).toArray 33)).alloc (.cells (obsC b).toArray 33) = v ∧ Rw v w.heap.size (obsC a) ∧ Rw v (w.heap.size + 1) (obsC b) ∧ Below w.heap.size w v := by
  have a1 := (Below.refl w.heap.size w).alloc (Nat.le_refl _) (.cells (obsC a).toArray 33)
  have r1 := Rw.new w (obsC a) 33
  have e1 : (w.alloc (.cells (obsC a).toArray 33)).heap.size = w.heap.size + 1 := by simp
  refine ⟨_, rfl, ?_⟩
  generalize w.alloc (.cells (obsC a).toArray 33) = v1 at *
  have a2 := (Below.refl v1.heap.size v1).alloc (Nat.le_refl _) (.cells (obsC b).toArray 33)
  have r2 := Rw.new v1 (obsC b) 33
  rw [e1] at r2
  exact ⟨r1.call a2, r2, below_then a1 a2⟩
set_option maxRecDepth 100000 in
set_option maxHeartbeats 4000000 in
theorem twins_any (a b : Ob) (w : World) : Calls Tryz.prog 26 #[obsV a, obsV b] w fun e w' => e = .returned (.bool (decide (kyOf a = kyOf b))) ∧ Below w.heap.size w w' := by
  have K : Hid (a.name = b.name → a.site = b.site → a.t = b.t → decide (kyOf a = kyOf b) = true) := Lib.hid (fun h1 h2 h3 => decide_eq_true (by unfold kyOf; rw [h1, h2, h3]))
  have N1 : Hid (a.name ≠ b.name → decide (kyOf a = kyOf b) = false) := Lib.hid (fun h => decide_eq_false (fun e => h (congrArg Ky.name e)))
  have N2 : Hid (a.site ≠ b.site → decide (kyOf a = kyOf b) = false) := Lib.hid (fun h => decide_eq_false (fun e => h (congrArg Ky.site e)))
  have N3 : Hid (a.t ≠ b.t → decide (kyOf a = kyOf b) = false) := Lib.hid (fun h => decide_eq_false (fun e => h (congrArg Ky.t e)))
  obtain ⟨v, hv, ra, rb, hb⟩ := boxes2 w a b
  have HV := Lib.hid hv
  have RA := Lib.hid ra
  have RB := Lib.hid rb
  have HB := Lib.hid hb
  clear hv ra rb hb
  generalize decide (kyOf a = kyOf b) = D at *
  have a0 := RA.out.cell (j := 0) (v := _) rfl
  have a1 := RA.out.cell (j := 1) (v := _) rfl
  have a2 := RA.out.cell (j := 2) (v := _) rfl
  have b0 := RB.out.cell (j := 0) (v := _) rfl
  have b1 := RB.out.cell (j := 1) (v := _) rfl
  have b2 := RB.out.cell (j := 2) (v := _) rfl
  by_cases h1 : a.name = b.name
  · have e1 := bs_eq h1
    by_cases h2 : a.site = b.site
    · have e2 := bs_eq h2
      by_cases h3 : a.t = b.t
      · obtain rfl := K.out h1 h2 h3
        have e3 : (a.t == b.t) = true := by rw [h3]; exact beq_self_eq_true _
        clear K N1 N2 N3 h1 h2 h3
        go_enter Tryz.func26, Tryz.ntmps26
        go_upto_region 1 with fail
        rw [show (w.alloc (.cells #[.string a.name, .string a.site, .int .i64 a.t, .int .i64 a.ra, .int .i64 a.dec, .int .i64 a.sg, .int .i64 a.mag, .int .u8 a.band] 33)).alloc (.cells #[.string b.name, .string b.site, .int .i64 b.t, .int .i64 b.ra, .int .i64 b.dec, .int .i64 b.sg, .int .i64 b.mag, .int .u8 b.band] 33) = v from HV.out]
        go_wp2_with fail
        go_ret
        exact ⟨rfl, HB.out⟩
      · obtain rfl := N3.out h3
        have e3 : (a.t == b.t) = false := beq_eq_false_iff_ne.2 h3
        clear K N1 N2 N3 h1 h2
        go_enter Tryz.func26, Tryz.ntmps26
        go_upto_region 1 with fail
        rw [show (w.alloc (.cells #[.string a.name, .string a.site, .int .i64 a.t, .int .i64 a.ra, .int .i64 a.dec, .int .i64 a.sg, .int .i64 a.mag, .int .u8 a.band] 33)).alloc (.cells #[.string b.name, .string b.site, .int .i64 b.t, .int .i64 b.ra, .int .i64 b.dec, .int .i64 b.sg, .int .i64 b.mag, .int .u8 b.band] 33) = v from HV.out]
        go_wp2_with fail
        go_ret
        exact ⟨rfl, HB.out⟩
    · have e2 := bs_ne h2
      obtain rfl := N2.out h2
      clear K N1 N2 N3 h1 h2
      go_enter Tryz.func26, Tryz.ntmps26
      go_upto_region 1 with fail
      rw [show (w.alloc (.cells #[.string a.name, .string a.site, .int .i64 a.t, .int .i64 a.ra, .int .i64 a.dec, .int .i64 a.sg, .int .i64 a.mag, .int .u8 a.band] 33)).alloc (.cells #[.string b.name, .string b.site, .int .i64 b.t, .int .i64 b.ra, .int .i64 b.dec, .int .i64 b.sg, .int .i64 b.mag, .int .u8 b.band] 33) = v from HV.out]
      go_wp2_with fail
      go_ret
      exact ⟨rfl, HB.out⟩
  · have e1 := bs_ne h1
    obtain rfl := N1.out h1
    clear K N1 N2 N3 h1
    go_enter Tryz.func26, Tryz.ntmps26
    go_upto_region 1 with fail
    rw [show (w.alloc (.cells #[.string a.name, .string a.site, .int .i64 a.t, .int .i64 a.ra, .int .i64 a.dec, .int .i64 a.sg, .int .i64 a.mag, .int .u8 a.band] 33)).alloc (.cells #[.string b.name, .string b.site, .int .i64 b.t, .int .i64 b.ra, .int .i64 b.dec, .int .i64 b.sg, .int .i64 b.mag, .int .u8 b.band] 33) = v from HV.out]
    go_wp2_with fail
    go_ret
    exact ⟨rfl, HB.out⟩
end Vw
end Go.Proofs.YtaghilgfldaaiaaGreatDoor
/-
  The library contract of a sort, laid at this program.
-/
namespace Go.Proofs
open Go.Shelf
def Tryz.sortRec_ren : Go.Shelf.Ren := ⟨fun | 6 => 66 | 15 => 112 | 14 => 111 | 28 => 166 | 29 => 167 | 20 => 158 | 21 => 159 | 22 => 160 | 23 => 161 | 24 => 162 | 25 => 163 | 26 => 164 | 27 => 165 | 46 => 196 | 47 => 197 | 48 => 198 | 49 => 199 | 50 => 200 | 57 => 216 | n => n, fun | 22 => 107 | 24 => 108 | 25 => 110 | 3 => 3 | 39 => 150 | 0 => 0 | 53 => 179 | 55 => 181 | 4 => 4 | 46 => 173 | 45 => 172 | 50 => 123 | 5 => 5 | 9 => 9 | 66 => 197 | 70 => 201 | 76 => 219 | 77 => 220 | n => n, fun n => n⟩
theorem Tryz.sortRec : Go.Proofs.SlLaysF0.n6 Tryz.prog Tryz.sortRec_ren := {
  mixed := by kernel_rfl
  f6 := ⟨Tryz.f66.name, by decide, Tryz.func66.trans (congrArg some (by kernel_rfl))⟩
  f14 := ⟨Tryz.f111.name, by decide, Tryz.func111.trans (congrArg some (by kernel_rfl))⟩
  f15 := Tryz.func112.trans (congrArg some (by kernel_rfl))
  f20 := ⟨Tryz.f158.name, by decide, Tryz.func158.trans (congrArg some (by kernel_rfl))⟩
  f21 := ⟨Tryz.f159.name, by decide, Tryz.func159.trans (congrArg some (by kernel_rfl))⟩
  f22 := ⟨Tryz.f160.name, by decide, Tryz.func160.trans (congrArg some (by kernel_rfl))⟩
  f23 := ⟨Tryz.f161.name, by decide, Tryz.func161.trans (congrArg some (by kernel_rfl))⟩
  f24 := ⟨Tryz.f162.name, by decide, Tryz.func162.trans (congrArg some (by kernel_rfl))⟩
  f25 := ⟨Tryz.f163.name, by decide, Tryz.func163.trans (congrArg some (by kernel_rfl))⟩
  f26 := ⟨Tryz.f164.name, by decide, Tryz.func164.trans (congrArg some (by kernel_rfl))⟩
  f27 := ⟨Tryz.f165.name, by decide, Tryz.func165.trans (congrArg some (by kernel_rfl))⟩
  f28 := Tryz.func166.trans (congrArg some (by kernel_rfl))
  f29 := Tryz.func167.trans (congrArg some (by kernel_rfl))
  f46 := ⟨Tryz.f196.name, by decide, Tryz.func196.trans (congrArg some (by kernel_rfl))⟩
  f47 := Tryz.func197.trans (congrArg some (by kernel_rfl))
  f48 := Tryz.func198.trans (congrArg some (by kernel_rfl))
  f49 := ⟨Tryz.f199.name, by decide, Tryz.func199.trans (congrArg some (by kernel_rfl))⟩
  f50 := ⟨Tryz.f200.name, by decide, Tryz.func200.trans (congrArg some (by kernel_rfl))⟩
  f57 := ⟨Tryz.f216.name, by decide, Tryz.func216.trans (congrArg some (by kernel_rfl))⟩
  t0 := Tryz.underlying0
  a0 := Tryz.isAgg0
  z0 := Tryz.sizeOf0
  v0 := Tryz.zeroValue0
  t3 := Tryz.underlying3
  a3 := Tryz.isAgg3
  z3 := Tryz.sizeOf3
  v3 := Tryz.zeroValue3
  t4 := Tryz.underlying4
  a4 := Tryz.isAgg4
  z4 := Tryz.sizeOf4
  v4 := Tryz.zeroValue4
  t5 := Tryz.underlying5
  a5 := Tryz.isAgg5
  z5 := Tryz.sizeOf5
  v5 := Tryz.zeroValue5
  t9 := Tryz.underlying9
  a9 := Tryz.isAgg9
  z9 := Tryz.sizeOf9
  v9 := Tryz.zeroValue9
  t22 := Tryz.underlying107
  a22 := Tryz.isAgg107
  z22 := Tryz.sizeOf107
  v22 := Tryz.zeroValue107
  t25 := Tryz.underlying110
  a25 := Tryz.isAgg110
  z25 := Tryz.sizeOf110
  v25 := Tryz.zeroValue110
  t39 := Tryz.underlying150
  a39 := Tryz.isAgg150
  z39 := Tryz.sizeOf150
  v39 := Tryz.zeroValue150
  t45 := Tryz.underlying172
  a45 := Tryz.isAgg172
  z45 := Tryz.sizeOf172
  v45 := Tryz.zeroValue172
  t46 := Tryz.underlying173
  a46 := Tryz.isAgg173
  z46 := Tryz.sizeOf173
  v46 := Tryz.zeroValue173
  t50 := Tryz.underlying123
  a50 := Tryz.isAgg123
  z50 := Tryz.sizeOf123
  v50 := Tryz.zeroValue123
  t53 := Tryz.underlying179
  a53 := Tryz.isAgg179
  z53 := Tryz.sizeOf179
  v53 := Tryz.zeroValue179
  t55 := Tryz.underlying181
  a55 := Tryz.isAgg181
  z55 := Tryz.sizeOf181
  v55 := Tryz.zeroValue181
  t66 := Tryz.underlying197
  a66 := Tryz.isAgg197
  z66 := Tryz.sizeOf197
  v66 := Tryz.zeroValue197
  t70 := Tryz.underlying201
  a70 := Tryz.isAgg201
  z70 := Tryz.sizeOf201
  v70 := Tryz.zeroValue201
  t76 := Tryz.underlying219
  a76 := Tryz.isAgg219
  z76 := Tryz.sizeOf219
  v76 := Tryz.zeroValue219
  t77 := Tryz.underlying220
  a77 := Tryz.isAgg220
  z77 := Tryz.sizeOf220
  v77 := Tryz.zeroValue220 }
end Go.Proofs
/-
  slices.SortFunc at records of observations.
-/
namespace Go.Proofs.YtaghilgfldaaiaaGreatDoor
namespace Ow
open Go.RowKit Lw Go.Proofs.YtaghilgfldaaiaaGreatDoor.Ap Go.Proofs.YtaghilgfldaaiaaGreatDoor.Op Go.Proofs.YtaghilgfldaaiaaGreatDoor.Mp Go.Proofs.YtaghilgfldaaiaaGreatDoor.Mw Go.Proofs.YtaghilgfldaaiaaGreatDoor.At Go.Sort Go.Lib

theorem lt_cmp (x y : Ob) : ltOf cmpO x y = decide (cmpO x y < 0) := rfl
theorem swo_O : SWO (ltOf cmpO) where
  irrefl x := by rw [lt_cmp, cmpO_refl]; rfl
  trans x y z h1 h2 := by
    rw [lt_cmp] at *
    have h1 := of_decide_eq_true h1
    have h2 := of_decide_eq_true h2
    exact decide_eq_true (cmp_O.lt_le h1 (by omega))
  ntrans x y z h1 h2 := by
    rw [lt_cmp] at *
    have h1 := of_decide_eq_false h1
    have h2 := of_decide_eq_false h2
    have e1 := cmp_O.anti x y
    have e2 := cmp_O.anti y z
    have e3 := cmp_O.anti x z
    have := cmp_O.trans z y x (by omega) (by omega)
    exact decide_eq_false (by omega)
/-- The cells of a row that the call owns. -/
theorem holds_own {w : World} {B g cap : Nat} {l : List Ob} (h : OwnR w B (.slice (some ⟨g, 0, none⟩) l.length cap) l) (hn : l ≠ []) : HoldsK obsC 8 w g 0 l.toArray := by
  obtain ⟨⟨h1, h2⟩, _⟩ := h
  have hlt := h1
  rcases h2 with ⟨hv, hn0⟩ | ⟨g', cap', cur, hv, hb, hh, hc1, hc2, hs, ht⟩
  · exact absurd (List.length_eq_zero_iff.1 hn0) hn
  · have eg : g = g' := by
      have := congrArg (fun v => match v with | Value.slice (some a) _ _ => a.block | _ => 0) hv
      exact this
    subst eg
    intro t ht'
    rw [size_flatK] at ht'
    have z : l.toArray.size = l.length := by simp
    rw [z] at ht'
    have hi : t / 8 < l.length := by omega
    have e1 : (flatK obsC 8 l.toArray)[t]! = (obsC l[t / 8])[t % 8]! := by
      rw [get_flatK _ _ _ _ (by rw [z]; exact ht')]
      congr 2
      rw [getElem!_pos l.toArray (t / 8) (by rw [z]; exact hi)]
      simp
    have hj : t % 8 < (obsC l[t / 8]).length := by show t % 8 < 8; omega
    have e2 : (obsC l[t / 8])[t % 8]? = some ((obsC l[t / 8])[t % 8]!) := by
      rw [getElem!_pos (obsC l[t / 8]) (t % 8) hj]; exact List.getElem?_eq_getElem hj
    have e3 := flatO_get hi e2
    rw [show t / 8 * 8 + t % 8 = t by omega] at e3
    have e4 : cur[t]? = some ((obsC l[t / 8])[t % 8]!) := by
      rw [← ht] at e3
      rw [List.getElem?_take_of_lt (by omega)] at e3
      rwa [Array.getElem?_toList] at e3
    rw [e1, Nat.zero_add]
    refine ⟨?_, ?_⟩
    · unfold World.cell?
      rw [hh]
      simpa using e4
    · exact Lib.frozen_of_heap hh t
theorem obs_holds {w : World} {g : Nat} {d : Array Ob} (h : HoldsK obsC 8 w g 0 d) : ObsAt w g 0 d.toList := fun i hi j v hv => by
  have hi' : i < d.size := by simpa using hi
  have hj : j < 8 := by
    have := (List.getElem?_eq_some_iff.1 hv).1
    exact this
  have := (h.cell hi' hj).1
  rw [this]
  have e : d[i]! = d.toList[i] := by rw [getElem!_pos d i hi']; simp
  rw [e]
  have hj2 : j < (obsC d.toList[i]).length := hj
  rw [getElem!_pos (obsC d.toList[i]) j hj2]
  rw [List.getElem?_eq_getElem hj2] at hv
  exact hv
theorem below_sorted (w : World) (B g n : Nat) (d : Array Ob) (os : Array Obj) (hg : B ≤ g) (hB : B ≤ w.heap.size) : Below B w (sortWorldK obsC 8 w g 0 n d os) := by
  refine ⟨rfl, rfl, rfl, ?_, fun k hk => ?_⟩
  · show w.heap.size ≤ ((putRowK obsC 8 (Go.Sort.ahead w n) g 0 d).heap ++ os).size
    rw [Array.size_append]
    have : (putRowK obsC 8 (Go.Sort.ahead w n) g 0 d).heap.size = w.heap.size := by unfold putRowK; rw [size_putRow]; rfl
    omega
  · show ((putRowK obsC 8 (Go.Sort.ahead w n) g 0 d).heap ++ os)[k]? = w.heap[k]?
    have z : (putRowK obsC 8 (Go.Sort.ahead w n) g 0 d).heap.size = w.heap.size := by unfold putRowK; rw [size_putRow]; rfl
    rw [Array.getElem?_append_left (by omega)]
    unfold putRowK putRow mapBlock
    simp only [Array.getElem?_modify]
    rw [if_neg (by omega)]
    rfl
/-- SortFunc at a row of the call's own. -/
theorem sort_rec (B g cap : Nat) (l : List Ob) (w : World) (h : OwnR w B (.slice (some ⟨g, 0, none⟩) l.length cap) l) (hn : l ≠ []) (hg : B ≤ g) (lt : g < w.heap.size) (hl : l.length ≤ 1000000) :
    Calls Tryz.prog 66 #[.slice (some ⟨g, 0, none⟩) l.length cap, .func (.func 67) #[] #[]] w fun e w' => e = .returned (.tuple #[]) ∧ ∃ x, x.Perm l ∧ ordL x ∧ ObsAt w' g 0 x ∧ g < w'.heap.size ∧ Below B w w' := by
  have eg : ∀ args w, (callFunc 67 args).run Tryz.prog w = .ok (.enter 67 args) w := enters_of Tryz.func67 (by kernel_rfl) rfl
  have H := holds_own h hn
  have hc := AnyQ.slices_SortFunc Tryz.sortRec 8 Tryz.isAgg108 Tryz.sizeOf108 obsC (fun _ => rfl) (fun x => obsC_one x) cmpO swo_O 67 #[] g 0 cap l.toArray w eg (fun m os dk hs x y => compare_any x y _) H lt (by simp; omega)
  have z : l.toArray.size = l.length := by simp
  rw [z] at hc
  refine hc.mono ?_
  rintro e w' ⟨rfl, d', n, os, hp, hs, rfl⟩
  obtain ⟨p1, _, p2⟩ := hp
  have e1 : d'.extract 0 l.length = d' := by rw [← z, ← p1]; exact Array.extract_size
  have e2 : l.toArray.extract 0 l.length = l.toArray := by rw [← z]; exact Array.extract_size
  rw [e1, e2] at p2
  have hd := holdsK_sortWorldK obsC 8 w g 0 n l.toArray d' os lt H p1
  refine ⟨rfl, d'.toList, by simpa using p2, ?_, obs_holds hd, lt_sortWorldK obsC 8 w g 0 n d' os lt, below_sorted w B g n d' os hg h.2⟩
  unfold ordL
  rw [List.pairwise_iff_getElem]
  intro i j hi hj hij
  have hi' : i < d'.size := by simpa using hi
  have hj' : j < d'.size := by simpa using hj
  have := hs i j (Nat.zero_le _) hij (by rw [p1, z] at hj'; exact hj')
  rw [getElem!_pos d' j hj', getElem!_pos d' i hi', lt_cmp] at this
  have := of_decide_eq_false this
  have e3 := cmp_O.anti d'[i] d'[j]
  show cmpO d'.toList[i] d'.toList[j] ≤ 0
  simp only [Array.getElem_toList]
  omega
end Ow
end Go.Proofs.YtaghilgfldaaiaaGreatDoor
/-
  Plain law of observations: the plan of the law ObsBack: what is read from a line has a line; no walk here.
-/
namespace Go.Proofs.YtaghilgfldaaiaaGreatDoor
namespace Op
open Go.RowKit Lw Go.Proofs.YtaghilgfldaaiaaGreatDoor.Ap Go.Proofs.YtaghilgfldaaiaaGreatDoor.Mp Go.Proofs.YtaghilgfldaaiaaGreatDoor.At Go.Proofs.YtaghilgfldaaiaaGreatDoor.Ow Go.Proofs.YtaghilgfldaaiaaGreatDoor.Mw

/-! ### Columns as lists -/
abbrev sl (s : ByteArray) (i j : Nat) : List UInt8 := (s.extract i j).data.toList
end Op
end Go.Proofs.YtaghilgfldaaiaaGreatDoor
/-
  The walk of Sort of obs.
-/
namespace Go.Proofs.YtaghilgfldaaiaaGreatDoor
namespace Ow
open Go.RowKit Lw Go.Proofs.YtaghilgfldaaiaaGreatDoor.Ap Go.Proofs.YtaghilgfldaaiaaGreatDoor.Op Go.Proofs.YtaghilgfldaaiaaGreatDoor.Mp Go.Proofs.YtaghilgfldaaiaaGreatDoor.Mw Go.Proofs.YtaghilgfldaaiaaGreatDoor.At

theorem sort_own (B : Nat) (v : Value) (l : List Ob) (w : World) (h : OwnR w B v l) (hl : l.length ≤ 1000000) :
    Calls Tryz.prog 66 #[v, .func (.func 67) #[] #[]] w fun e w' => e = .returned (.tuple #[]) ∧ ∃ x, x.Perm l ∧ ordL x ∧ SlV w' v x ∧ Below B w w' := by
  rcases owns_form h.1 with ⟨rfl, rfl⟩ | ⟨g, cap, rfl, hg, lt, _⟩
  · refine (AnyF.slices_SortFunc_none Tryz.sortRec none 0 _ w).mono ?_
    rintro e w' ⟨rfl, rfl⟩
    exact ⟨rfl, [], List.Perm.refl _, List.Pairwise.nil, SlV.nil _, Below.refl _ _⟩
  · by_cases hn : l = []
    · subst hn
      refine (AnyF.slices_SortFunc_none Tryz.sortRec (some ⟨g, 0, none⟩) cap _ w).mono ?_
      rintro e w' ⟨rfl, rfl⟩
      exact ⟨rfl, [], List.Perm.refl _, List.Pairwise.nil, ⟨_, cap, rfl, Or.inl rfl⟩, Below.refl _ _⟩
    · refine (sort_rec B g cap l w h hn hg lt hl).mono ?_
      rintro e w' ⟨rfl, x, hp, ho, hx, lt', hb⟩
      exact ⟨rfl, x, hp, ho, ⟨some ⟨g, 0, none⟩, cap, by rw [hp.length_eq], Or.inr ⟨g, 0, rfl, lt', hx⟩⟩, hb⟩
def SortPost (l : List Ob) (w : World) (e : Ending) (w' : World) : Prop := ∃ (v : Value) (x : List Ob) (c : Int), e = .returned (.tuple #[v, .int .i64 c]) ∧ SortIs l x c ∧ SlV w' v x ∧ Below w.heap.size w w'
theorem take_snocO {l : List Ob} {k : Nat} (h : k < l.length) : l.take (k + 1) = l.take k ++ [l[k]] := List.take_succ_eq_append_getElem h
theorem infoR8 : (Tryz.prog.info? 108).map (·.size) = some 8 := by kernel_rfl
set_option maxRecDepth 100000 in
set_option maxHeartbeats 16000000 in
theorem sort_any (x : Option Addr) (cap : Nat) (l : List Ob) (w : World) (hE : ES w) (hl : SlA w x l) (hm : l.length ≤ 1000000) (hb : OBs l) :
    Calls Tryz.prog 32 #[.slice x l.length cap] w (SortPost l w) := by
  have HL := Lib.hid (fun w' (h : Below w.heap.size w w') => hl.below h)
  have CA := Lib.hid (checkall_any x cap l w hE hl hm hb)
  obtain ⟨n, hnl⟩ : ∃ n, l.length = n := ⟨_, rfl⟩
  by_cases hz : allC l = 0
  · have n5 : n ≤ 500 := by have := (allC_ok hz).1; omega
    have FIN : Hid (∀ x, x.Perm l → ordL x → SortIs l x 0) := Lib.hid (fun x h g => Or.inl ⟨hz, h, g, rfl⟩)
    rw [hz] at CA
    rw [hnl] at CA ⊢
    have NL := Lib.hid hnl
    clear hl hE hb hnl hz hm
    go_enter Tryz.func32, Tryz.ntmps32
    go_wp2_with fail
    refine CA.out.mono ?_
    rintro e w1 ⟨rfl, hb1⟩
    have B1 := Lib.hid hb1
    clear hb1 CA
    go_wp2_with fail
    go_loopw [5, 18] (fun v i wr => ∃ k : Nat, k ≤ n ∧ i = .int .i64 k ∧ Hid (OwnR wr w.heap.size v (l.take k)) ∧ Hid (Below w.heap.size w wr)) (fun _ i _ => n - (intOf i).toNat)
    case atStart => exact ⟨0, Nat.zero_le _, rfl, Lib.hid (OwnR.nil w1 _ B1.out.size), B1⟩
    case round =>
      obtain ⟨k, hk, rfl, O, B⟩ := hrel
      clear B1
      by_cases hlt : k < n
      · have hkl : k < l.length := by rw [NL.out]; exact hlt
        obtain ⟨b, off, rfl, lt, row⟩ := (HL.out _ B.out).get hkl
        have R := Lib.hid (row k hkl)
        have TK := Lib.hid (take_snocO hkl)
        have i1 : (k : Int) < (n : Int) := by omega
        have zl : (l.take k).length ≤ 1000000 := by rw [List.length_take]; omega
        clear row lt FIN
        generalize l[k]'hkl = o at *
        have bx := (Below.refl wr.heap.size wr).alloc (Nat.le_refl _) (.cells (obsC o).toArray 33)
        have X0 := Lib.hid (Box.new wr o)
        have B1 := Lib.hid (below_then B.out bx)
        have O1 := Lib.hid (O.out.below bx)
        clear B bx O
        go_wp2_with (first | (refine wpList_store_new rfl _ (.tmp 7) (.tmp 21) rfl _ _ rfl rfl info8 rfl ?_ ?_; simp [Value.oneCell']) | (refine wpList_load_mid rfl _ (.tmp 20) rfl b (off + k * 8) rfl (obsC o) _ R.out Tryz.underlying33 rfl info8 ?_) | (refine wpList_load_mid rfl _ (.tmp 7) rfl wr.heap.size 0 rfl (obsC o) _ X0.out.row Tryz.underlying33 rfl info8 ?_) | (at_builtin; refine wp_appR _ rfl (.tmp 22) (.tmp 24) rfl w.heap.size _ (l.take k) o rfl (by first | rfl | simp [Act.eval]) O1.out zl ?_; intro v' w3 hO3 hb3))
        have B3 := Lib.hid (B1.out.trans hb3)
        have O3 := Lib.hid (show OwnR w3 w.heap.size v' (l.take (k + 1)) by rw [TK.out]; exact hO3)
        clear hO3 hb3 B1 O1 X0 R TK
        go_wp2_with fail
        go_roundw
        case rel => exact ⟨k + 1, by omega, by go_num, O3, B3⟩
        case measure => simp [intOf]; omega
      · obtain rfl : k = n := by omega
        have tk : l.take k = l := by rw [← NL.out, List.take_length]
        have O1 := O.out
        rw [tk] at O1
        have ST := Lib.hid (sort_own w.heap.size _ l wr O1 (by have := NL.out; omega))
        clear HL O tk O1
        go_wp2_with fail
        refine ST.out.mono ?_
        rintro e w4 ⟨rfl, y, hp, ho, hv, hb4⟩
        have F := Lib.hid (FIN.out y hp ho)
        have zy : y.length = k := by rw [hp.length_eq]; exact NL.out
        obtain ⟨ya, yc, rfl, hy⟩ := hv
        have B4 := Lib.hid (B.out.trans hb4)
        have YL := Lib.hid (fun w' (h : Below w4.heap.size w4 w') => hy.below h)
        clear hp ho hy hb4 B ST FIN
        rw [zy]
        have ZY := Lib.hid zy
        have NI := Lib.hid (OwnO.nil w4 w4.heap.size (Nat.le_refl _))
        clear zy
        go_wp2_with fail
        go_loopw [8, 31] (fun v i wr => ∃ j : Nat, j ≤ k ∧ i = .int .i64 j ∧ Hid (OwnO wr w4.heap.size v (y.take j)) ∧ Hid (Below w4.heap.size w4 wr)) (fun _ i _ => k - (intOf i).toNat)
        case atStart => exact ⟨0, Nat.zero_le _, rfl, NI, Lib.hid (Below.refl _ _)⟩
        case round =>
          obtain ⟨j, hj, rfl, O, B⟩ := hrel
          by_cases hlt2 : j < k
          · have hjl : j < y.length := by rw [ZY.out]; exact hlt2
            obtain ⟨b, off, rfl, lt, row⟩ := (YL.out _ B.out).get hjl
            have R := Lib.hid (row j hjl)
            have TK := Lib.hid (take_snocO hjl)
            have i1 : (j : Int) < (k : Int) := by omega
            have zl : (y.take j).length ≤ 1000000 := by rw [List.length_take]; omega
            clear row lt F
            generalize y[j]'hjl = o at *
            have bx := (Below.refl wr.heap.size wr).alloc (Nat.le_refl _) (.cells (obsC o).toArray 108)
            have X0 := Lib.hid (show (wr.alloc (.cells (obsC o).toArray 108)).rangeAt wr.heap.size 0 (obsC o) from rangeAt_new wr _ _)
            have B1 := Lib.hid (below_then B.out bx)
            have O1 := Lib.hid (O.out.below bx)
            clear B bx O
            go_wp2_with (first | (refine wpList_store_new rfl _ (.tmp 10) (.tmp 34) rfl _ _ rfl rfl infoR8 rfl ?_ ?_; simp [Value.oneCell']) | (refine wpList_load_mid rfl _ (.tmp 33) rfl b (off + j * 8) rfl (obsC o) _ R.out Tryz.underlying108 rfl infoR8 ?_) | (refine wpList_load_mid rfl _ (.tmp 10) rfl wr.heap.size 0 rfl (obsC o) _ X0.out Tryz.underlying108 rfl infoR8 ?_) | (at_builtin; refine wp_app _ rfl (.tmp 35) (.tmp 37) rfl w4.heap.size _ (y.take j) o rfl (by first | rfl | simp [Act.eval]) O1.out zl ?_; intro v' w3 hO3 hb3))
            have B3 := Lib.hid (B1.out.trans hb3)
            have O3 := Lib.hid (show OwnO w3 w4.heap.size v' (y.take (j + 1)) by rw [TK.out]; exact hO3)
            clear hO3 hb3 B1 O1 X0 R TK
            go_wp2_with fail
            go_roundw
            case rel => exact ⟨j + 1, by omega, by go_num, O3, B3⟩
            case measure => simp [intOf]; omega
          · obtain rfl : j = k := by omega
            have tk : y.take j = y := by rw [← ZY.out, List.take_length]
            have O1 := O.out.1
            rw [tk] at O1
            have SV := Lib.hid (slV_of O1)
            have B5 := Lib.hid (below_then B4.out B.out)
            clear YL O O1 tk B B4
            go_wp2_with fail
            go_ret2
            exact ⟨_, y, 0, rfl, F.out, SV.out, B5.out⟩
  · have FIN := Lib.hid (show SortIs l [] (allC l) from Or.inr ⟨hz, rfl, rfl⟩)
    have hnz : (allC l != 0) = true := by rw [bne, beq_eq_false_iff_ne.2 hz]; rfl
    clear hl hE hb hnl hm HL hz
    generalize allC l = K at *
    go_enter Tryz.func32, Tryz.ntmps32
    go_wp2_with fail
    refine CA.out.mono ?_
    rintro e w1 ⟨rfl, hb1⟩
    have B1 := Lib.hid hb1
    clear hb1 CA
    go_wp2_with fail
    go_ret2
    exact ⟨_, [], K, rfl, FIN.out, SlV.nil _, B1.out⟩
end Ow
end Go.Proofs.YtaghilgfldaaiaaGreatDoor
/-
  The walk of Merge of psv.
-/
namespace Go.Proofs.YtaghilgfldaaiaaGreatDoor
namespace Vw
open Go.RowKit Lw Go.Proofs.YtaghilgfldaaiaaGreatDoor.Ap Go.Proofs.YtaghilgfldaaiaaGreatDoor.Vp Go.Proofs.YtaghilgfldaaiaaGreatDoor.Op Go.Proofs.YtaghilgfldaaiaaGreatDoor.Ow Go.Proofs.YtaghilgfldaaiaaGreatDoor.Mp Go.Proofs.YtaghilgfldaaiaaGreatDoor.Mw Go.Proofs.YtaghilgfldaaiaaGreatDoor.At Go.Maps

abbrev kyC (k : Ky) : List Value := [.string k.name, .string k.site, .int .i64 k.t]
theorem infoKy : (Tryz.prog.info? 65).map (·.size) = some 3 := by kernel_rfl
theorem good_key {o : Ob} (ok : okO o) (hb : OB o) : goodK (kyOf o) := by
  obtain ⟨ot, on, os, ow, _⟩ := ok
  have z0 : o.name.size ≤ 7 := by
    rcases on with ⟨h, _⟩ | ⟨_, h, _⟩
    · omega
    · exact h
  exact ⟨by show o.name.size ≤ 1000; omega, by show o.site.size ≤ 1000; omega, hb.t0, hb.t1⟩
def MergePost (l : List Ob) (w : World) (e : Ending) (w' : World) : Prop := ∃ (v d : Value) (kept : List Ob) (dropped : List Nat) (c : Int), e = .returned (.tuple #[v, d, .int .i64 c]) ∧ MergeIs l kept dropped c ∧ SlV w' v kept ∧ IntV w' d dropped ∧ Below w.heap.size w w'
theorem turned_only {w w' : World} {b : Nat} (h : w.mapTurned w' b) (hb : b < w.heap.size) : Only b w w' := ⟨h.grown.size, fun k hk hne => h.grown.block k hk (fun e => hne (Option.some.inj e)), turned_below h (Nat.le_refl _) (Nat.le_of_lt hb)⟩
set_option maxRecDepth 100000 in
set_option maxHeartbeats 16000000 in
theorem merge_any (x : Option Addr) (cap : Nat) (l : List Ob) (w : World) (hE : ES w) (hl : SlA w x l) (hm : l.length ≤ 1000000) (hb : OBs l) :
    Calls Tryz.prog 10 #[.slice x l.length cap] w (MergePost l w) := by
  have HL := Lib.hid (fun w' (h : Below w.heap.size w w') => hl.below h)
  have HE := Lib.hid (fun w' (h : Below w.heap.size w w') => hE.below h)
  have SO := Lib.hid (sort_any x cap l w hE hl hm hb)
  have hmm := @run_makeMap Tryz.prog
  obtain ⟨n, hnl⟩ : ∃ n, l.length = n := ⟨_, rfl⟩
  by_cases hz : allC l = 0
  · have n5 : n ≤ 500 := by have := (allC_ok hz).1; omega
    have KEYS := Lib.hid (fun i (h : i < l.length) => good_key ((allC_ok hz).2 _ (List.getElem_mem h)) (hb i h))
    have ZK := Lib.hid (fun i (h : i ≤ l.length) => kept_ok hz i h)
    have KB : Hid (OBs (keptTo l n)) := Lib.hid (fun i hi => by
      obtain ⟨j, hj, _, _, e⟩ := keptTo_mem (List.getElem_mem hi)
      rw [← e]
      exact hb j hj)
    have FIN : Hid (∀ y, y.Perm (keptTo l n) → ordL y → MergeIs l y (dropTo l n) 0) := Lib.hid (fun y h g => by
      subst hnl
      exact Or.inl ⟨hz, h, g, rfl, rfl⟩)
    have LN := Lib.hid (fun i => keptTo_len l i)
    rw [hnl] at SO ⊢
    have NL := Lib.hid hnl
    have HZ := Lib.hid hz
    clear hl hE hb hnl hm hz
    go_enter Tryz.func10, Tryz.ntmps10
    go_wp2_with fail
    refine SO.out.mono ?_
    rintro e w1 ⟨v0, s, c, rfl, hs, hv, hb1⟩
    obtain ⟨sa, sc, rfl, hsl⟩ := hv
    obtain ⟨sp, so, rfl⟩ : s.Perm l ∧ ordL s ∧ c = 0 := by
      rcases hs with ⟨_, h1, h2, h3⟩ | ⟨h1, _⟩
      · exact ⟨h1, h2, h3⟩
      · exact absurd HZ.out h1
    have sl : s.length = n := by rw [sp.length_eq]; exact NL.out
    rw [sl]
    have SL := Lib.hid (fun w' (h : Below w1.heap.size w1 w') => hsl.below h)
    have SP := Lib.hid sp
    have SD := Lib.hid so
    have SN := Lib.hid sl
    have B1 := Lib.hid hb1
    have SK : Hid (∀ i (h : i < s.length), goodK (kyOf (s[i]'h))) := Lib.hid (fun i h => by
      obtain ⟨j, hj, e⟩ := List.getElem_of_mem (sp.mem_iff.1 (List.getElem_mem h))
      rw [← e]
      exact KEYS.out j hj)
    clear hs hsl sp so sl hb1 SO
    have M0 := Lib.hid (OMg.made (P := Tryz.prog) (K := 65) (kv := kyV) (vv := obsV) (good := goodK) w1)
    have B2 := Lib.hid ((Below.refl w1.heap.size w1).alloc (Nat.le_refl _) (.map #[] 0))
    obtain ⟨mb, hmb⟩ : ∃ m, w1.heap.size = m := ⟨_, rfl⟩
    go_upto_region 5 with fail
    rw [hmb] at M0 B2
    try rw [hmb]
    have MB := Lib.hid hmb
    clear hmb
    obtain ⟨w2, hw2⟩ : ∃ v, w1.alloc (.map #[] 0) = v := ⟨_, rfl⟩
    rw [hw2] at M0 B2 ⊢
    clear hw2
    go_wp2_with fail
    go_loopw [28] (fun i wr => ∃ (j : Nat) (f : Ky → Option Ob), j ≤ n ∧ i = .int .i64 j ∧ Hid (OM wr mb j f) ∧ Hid (∀ k, BstOf (s.take j) k (f k)) ∧ Hid (Below mb w1 wr)) (fun i _ => n - (intOf i).toNat)
    case atStart => exact ⟨0, fun _ => none, Nat.zero_le _, rfl, M0, Lib.hid (fun k => BstOf.nil k), B2⟩
    case round =>
      obtain ⟨j, f, hj, rfl, M, H, B⟩ := hrel
      clear M0 B2
      by_cases hlt : j < n
      · have hjl : j < s.length := by rw [SN.out]; exact hlt
        have BW : Below w1.heap.size w1 wr := by rw [MB.out]; exact B.out
        obtain ⟨b, off, rfl, lt, row⟩ := (SL.out _ BW).get hjl
        have R := Lib.hid (row j hjl)
        have GK := Lib.hid (SK.out j hjl)
        obtain ⟨o, ho⟩ : ∃ o, s[j]'hjl = o := ⟨_, rfl⟩
        have HO := Lib.hid ho
        rw [ho] at R GK
        have i1 : (j : Int) < (n : Int) := by omega
        have n6 : j < 1000000 := by omega
        have NLT := Lib.hid n6
        have LE := Lib.hid (show mb ≤ wr.heap.size by rw [← MB.out]; exact BW.size)
        clear row lt BW ho KEYS SK n6
        have r8 := Rw.new wr (obsC o) 33
        have l8 := (Below.refl wr.heap.size wr).alloc (Nat.le_refl _) (.cells (obsC o).toArray 33)
        obtain ⟨v1, hv1⟩ : ∃ v, wr.alloc (.cells (obsC o).toArray 33) = v := ⟨_, rfl⟩
        rw [hv1] at r8 l8
        have V1 := Lib.hid hv1
        have R8 := Lib.hid r8
        have L8 := Lib.hid l8
        clear r8 l8 hv1
        go_upto_region 8 with (first | (refine wpList_store_new rfl _ (.tmp 8) (.tmp 31) rfl _ _ rfl rfl info8 rfl ?_ ?_; simp [Value.oneCell']) | (refine wpList_load_mid rfl _ (.tmp 30) rfl b (off + j * 8) rfl (obsC o) _ R.out Tryz.underlying33 rfl info8 ?_))
        rw [show wr.alloc (.cells #[.string o.name, .string o.site, .int .i64 o.t, .int .i64 o.ra, .int .i64 o.dec, .int .i64 o.sg, .int .i64 o.mag, .int .u8 o.band] 33) = v1 from V1.out]
        clear V1 R
        have c0 := R8.out.cell (j := 0) (v := _) rfl
        have c1 := R8.out.cell (j := 1) (v := _) rfl
        have c2 := R8.out.cell (j := 2) (v := _) rfl
        have r9 := Rw.new v1 (kyC (kyOf o)) 65
        have l9 := (Below.refl v1.heap.size v1).alloc (Nat.le_refl _) (.cells (kyC (kyOf o)).toArray 65)
        obtain ⟨v2, hv2⟩ : ∃ v, v1.alloc (.cells (kyC (kyOf o)).toArray 65) = v := ⟨_, rfl⟩
        rw [hv2] at r9 l9
        obtain ⟨q1, hq1⟩ : ∃ q, v1.heap.size = q := ⟨_, rfl⟩
        have r9' : Rw v2 q1 (kyC (kyOf o)) := by rw [← hq1]; exact r9
        have V2 := Lib.hid hv2
        have R9 := Lib.hid r9'
        have L9 := Lib.hid (below_then L8.out l9)
        have R8b := Lib.hid (R8.out.call l9)
        clear r9 r9' l9 hv2 L8 R8
        go_upto_region 9 with (refine wpList_store_new rfl _ (.tmp 9) (.tmp 38) rfl _ (kyC (kyOf o)).toArray rfl rfl infoKy rfl ?_ ?_; simp [Value.oneCell'])
        rw [show v1.alloc (.cells #[.string o.name, .string o.site, .int .i64 o.t] 65) = v2 from V2.out]
        clear V2
        have M2 := Lib.hid (M.out.below L9.out)
        cases hf : f (kyOf o) with
        | none =>
          have HF := Lib.hid hf
          have H2 := Lib.hid (bsts_first hjl HO.out H.out hf)
          clear hf H
          have r10 := Rw.new v2 (obsC zeroO) 33
          have l10 := (Below.refl v2.heap.size v2).alloc (Nat.le_refl _) (.cells (obsC zeroO).toArray 33)
          obtain ⟨v3, hv3⟩ : ∃ v, v2.alloc (.cells (obsC zeroO).toArray 33) = v := ⟨_, rfl⟩
          rw [hv3] at r10 l10
          have V3 := Lib.hid hv3
          have R10 := Lib.hid r10
          have L10 := Lib.hid (below_then L9.out l10)
          have R8c := Lib.hid (R8b.out.call l10)
          have R9c := Lib.hid (R9.out.call l10)
          have M3 := Lib.hid (M2.out.below l10)
          clear r10 l10 hv3
          go_upto_region 10 with (first | (refine wpList_load_mid rfl _ (.tmp 9) rfl q1 0 rfl (kyC (kyOf o)) _ R9.out.row Tryz.underlying65 rfl infoKy ?_) | (at_lookup; refine wp_mlook_no _ rfl (.tmp 40) (.tmp 41) rfl mapK rfl M2.out (kyOf o) rfl GK.out HF.out ?_) | (refine wpList_store_new rfl _ (.tmp 10) (.tmp 43) rfl _ _ rfl rfl info8 rfl ?_ ?_; simp [Value.oneCell']))
          rw [show v2.alloc (.cells #[.string zeroO.name, .string zeroO.site, .int .i64 zeroO.t, .int .i64 zeroO.ra, .int .i64 zeroO.dec, .int .i64 zeroO.sg, .int .i64 zeroO.mag, .int .u8 zeroO.band] 33) = v3 from V3.out]
          clear V3 M2 L9 R8b R9
          go_wp2_with (first | (refine wpList_load_mid rfl _ (.tmp 9) rfl q1 0 rfl (kyC (kyOf o)) _ R9c.out.row Tryz.underlying65 rfl infoKy ?_) | (refine wpList_load_mid rfl _ (.tmp 8) rfl wr.heap.size 0 rfl (obsC o) _ R8c.out.row Tryz.underlying33 rfl info8 ?_) | (at_mapUpdate; refine wp_mstore _ rfl (.tmp 54) (.tmp 55) (.tmp 56) rfl mapK rfl M3.out (kyOf o) rfl GK.out o rfl NLT.out ?_; intro w6 hm6 ht6))
          have B6 := Lib.hid ((B.out.trans (L10.out.mono LE.out)).trans (turned_below ht6 (Nat.le_refl _) (Nat.le_trans LE.out L10.out.size)))
          have M6 := Lib.hid hm6
          clear hm6 ht6 M3 L10 R10 R8c R9c B M
          go_wp2_with fail
          go_roundw
          case rel => exact ⟨j + 1, _, by omega, by go_num, M6, H2, B6⟩
          case measure => simp [intOf]; omega
        | some b0 =>
          have HF := Lib.hid hf
          have r10 := Rw.new v2 (obsC b0) 33
          have l10 := (Below.refl v2.heap.size v2).alloc (Nat.le_refl _) (.cells (obsC b0).toArray 33)
          obtain ⟨v3, hv3⟩ : ∃ v, v2.alloc (.cells (obsC b0).toArray 33) = v := ⟨_, rfl⟩
          rw [hv3] at r10 l10
          have V3 := Lib.hid hv3
          have R10 := Lib.hid r10
          have L10 := Lib.hid (below_then L9.out l10)
          have R8c := Lib.hid (R8b.out.call l10)
          have R9c := Lib.hid (R9.out.call l10)
          have M3 := Lib.hid (M2.out.below l10)
          clear r10 l10 hv3
          go_upto_region 10 with (first | (refine wpList_load_mid rfl _ (.tmp 9) rfl q1 0 rfl (kyC (kyOf o)) _ R9.out.row Tryz.underlying65 rfl infoKy ?_) | (at_lookup; refine wp_mlook_yes _ rfl (.tmp 40) (.tmp 41) rfl mapK rfl M2.out (kyOf o) rfl GK.out _ HF.out ?_) | (refine wpList_store_new rfl _ (.tmp 10) (.tmp 43) rfl _ _ rfl rfl info8 rfl ?_ ?_; simp [Value.oneCell']))
          rw [show v2.alloc (.cells #[.string b0.name, .string b0.site, .int .i64 b0.t, .int .i64 b0.ra, .int .i64 b0.dec, .int .i64 b0.sg, .int .i64 b0.mag, .int .u8 b0.band] 33) = v3 from V3.out]
          clear V3 M2 L9 R8b R9
          have d5 := R8c.out.cell (j := 5) (v := _) rfl
          have e5 := R10.out.cell (j := 5) (v := _) rfl
          by_cases g : o.sg < b0.sg
          · have H2 := Lib.hid (bsts_less hjl HO.out H.out hf g)
            clear hf H
            go_wp2_with (first | (refine wpList_load_mid rfl _ (.tmp 9) rfl q1 0 rfl (kyC (kyOf o)) _ R9c.out.row Tryz.underlying65 rfl infoKy ?_) | (refine wpList_load_mid rfl _ (.tmp 8) rfl wr.heap.size 0 rfl (obsC o) _ R8c.out.row Tryz.underlying33 rfl info8 ?_) | (at_mapUpdate; refine wp_mstore _ rfl (.tmp 54) (.tmp 55) (.tmp 56) rfl mapK rfl M3.out (kyOf o) rfl GK.out o rfl NLT.out ?_; intro w6 hm6 ht6))
            have B6 := Lib.hid ((B.out.trans (L10.out.mono LE.out)).trans (turned_below ht6 (Nat.le_refl _) (Nat.le_trans LE.out L10.out.size)))
            have M6 := Lib.hid hm6
            clear hm6 ht6 M3 L10 R10 R8c R9c B M
            go_wp2_with fail
            go_roundw
            case rel => exact ⟨j + 1, _, by omega, by go_num, M6, H2, B6⟩
            case measure => simp [intOf]; omega
          · have H2 := Lib.hid (bsts_keep hjl SD.out HO.out H.out hf g)
            have B6 := Lib.hid (B.out.trans (L10.out.mono LE.out))
            have M6 := Lib.hid (show OM v3 mb (j + 1) f from (M3.out.mono (Nat.le_succ j)))
            clear hf H M3 L10 R10 R8c R9c B M
            go_wp2_with fail
            go_roundw
            case rel => exact ⟨j + 1, f, by omega, by go_num, M6, H2, B6⟩
            case measure => simp [intOf]; omega
      · obtain rfl : j = n := by omega
        have tk : s.take j = s := by rw [← SN.out, List.take_length]
        have h1 := H.out
        rw [tk] at h1
        have BW : Below w1.heap.size w1 wr := by rw [MB.out]; exact B.out
        have H0 := Lib.hid (lefts_start SP.out h1)
        have B0 := Lib.hid (below_then B1.out BW)
        have M0 : Hid (M3 w.heap.size mb j f (.slice none 0 0) (keptTo l 0) (.slice none 0 0) (dropTo l 0) wr) := Lib.hid ⟨W2.nil _ _ B0.out.size, M.out, by simp [Value.ownBlock], by simp [Value.ownBlock]⟩
        have MW := Lib.hid (show w.heap.size ≤ mb by rw [← MB.out]; exact B1.out.size)
        clear h1 tk BW H B M SL SP SD SN SK B1 MB
        go_wp2_with fail
        go_loopw [2, 3, 60] (fun vk vd i wr => ∃ (k : Nat) (g : Ky → Option Ob), k ≤ j ∧ i = .int .i64 k ∧ Hid (M3 w.heap.size mb j g vk (keptTo l k) vd (dropTo l k) wr) ∧ Hid (∀ q, LeftOf l k q (g q)) ∧ Hid (Below w.heap.size w wr)) (fun _ _ i _ => j - (intOf i).toNat)
        case atStart => exact ⟨0, f, Nat.zero_le _, rfl, M0, H0, B0⟩
        case round =>
          obtain ⟨k, g, hk, rfl, M, H, B⟩ := hrel
          clear M0 H0 B0
          by_cases hlt : k < j
          · have hkl : k < l.length := by rw [NL.out]; exact hlt
            obtain ⟨b, off, rfl, lt, row⟩ := (HL.out _ B.out).get hkl
            have R := Lib.hid (row k hkl)
            have GK := Lib.hid (KEYS.out k hkl)
            obtain ⟨o, ho⟩ : ∃ o, l[k]'hkl = o := ⟨_, rfl⟩
            rw [ho] at R GK
            have YES := Lib.hid (fun h => lefts_kept hkl ho H.out h)
            have NOT := Lib.hid (fun h => lefts_dropped hkl ho H.out h)
            have i1 : (k : Int) < (j : Int) := by omega
            have ll := (LN.out k).1
            have KL := Lib.hid (show (keptTo l k).length ≤ 1000000 by omega)
            have DL := Lib.hid (show (dropTo l k).length ≤ 1000000 by omega)
            have MN := Lib.hid (show mb < wr.heap.size from M.out.mp.lt)
            have LE := Lib.hid B.out.size
            clear row lt ho KEYS H ll
            have r8 := Rw.new wr (obsC o) 33
            have l8 := (Below.refl wr.heap.size wr).alloc (Nat.le_refl _) (.cells (obsC o).toArray 33)
            obtain ⟨v1, hv1⟩ : ∃ v, wr.alloc (.cells (obsC o).toArray 33) = v := ⟨_, rfl⟩
            rw [hv1] at r8 l8
            have V1 := Lib.hid hv1
            have R8 := Lib.hid r8
            have L8 := Lib.hid l8
            clear r8 l8 hv1
            go_upto_region 16 with (first | (refine wpList_store_new rfl _ (.tmp 13) (.tmp 64) rfl _ _ rfl rfl info8 rfl ?_ ?_; simp [Value.oneCell']) | (refine wpList_load_mid rfl _ (.tmp 63) rfl b (off + k * 8) rfl (obsC o) _ R.out Tryz.underlying33 rfl info8 ?_))
            rw [show wr.alloc (.cells #[.string o.name, .string o.site, .int .i64 o.t, .int .i64 o.ra, .int .i64 o.dec, .int .i64 o.sg, .int .i64 o.mag, .int .u8 o.band] 33) = v1 from V1.out]
            clear V1 R
            have c0 := R8.out.cell (j := 0) (v := _) rfl
            have c1 := R8.out.cell (j := 1) (v := _) rfl
            have c2 := R8.out.cell (j := 2) (v := _) rfl
            have r9 := Rw.new v1 (kyC (kyOf o)) 65
            have l9 := (Below.refl v1.heap.size v1).alloc (Nat.le_refl _) (.cells (kyC (kyOf o)).toArray 65)
            obtain ⟨v2, hv2⟩ : ∃ v, v1.alloc (.cells (kyC (kyOf o)).toArray 65) = v := ⟨_, rfl⟩
            rw [hv2] at r9 l9
            obtain ⟨q1, hq1⟩ : ∃ q, v1.heap.size = q := ⟨_, rfl⟩
            have r9' : Rw v2 q1 (kyC (kyOf o)) := by rw [← hq1]; exact r9
            have V2 := Lib.hid hv2
            have R9 := Lib.hid r9'
            have L9 := Lib.hid (below_then L8.out l9)
            have R8b := Lib.hid (R8.out.call l9)
            clear r9 r9' l9 hv2 L8 R8
            go_upto_region 17 with (refine wpList_store_new rfl _ (.tmp 14) (.tmp 71) rfl _ (kyC (kyOf o)).toArray rfl rfl infoKy rfl ?_ ?_; simp [Value.oneCell'])
            rw [show v1.alloc (.cells #[.string o.name, .string o.site, .int .i64 o.t] 65) = v2 from V2.out]
            clear V2 c0 c1 c2
            have M2 := Lib.hid (M.out.below L9.out)
            cases hf : g (kyOf o) with
            | none =>
              have HF := Lib.hid hf
              have NE : Hid (g (kyOf o) ≠ some o) := Lib.hid (by rw [hf]; simp)
              clear hf
              have r10 := Rw.new v2 (obsC zeroO) 33
              have l10 := (Below.refl v2.heap.size v2).alloc (Nat.le_refl _) (.cells (obsC zeroO).toArray 33)
              obtain ⟨v3, hv3⟩ : ∃ v, v2.alloc (.cells (obsC zeroO).toArray 33) = v := ⟨_, rfl⟩
              rw [hv3] at r10 l10
              have V3 := Lib.hid hv3
              have R10 := Lib.hid r10
              have L10 := Lib.hid (below_then L9.out l10)
              have R8c := Lib.hid (R8b.out.call l10)
              have R9c := Lib.hid (R9.out.call l10)
              have M3 := Lib.hid (M2.out.below l10)
              have B3 := Lib.hid (below_then B.out L10.out)
              clear r10 l10 hv3
              go_upto_region 18 with (first | (refine wpList_load_mid rfl _ (.tmp 14) rfl q1 0 rfl (kyC (kyOf o)) _ R9.out.row Tryz.underlying65 rfl infoKy ?_) | (at_lookup; refine wp_mlook_no _ rfl (.tmp 73) (.tmp 74) rfl mapK rfl M2.out.mp (kyOf o) rfl GK.out HF.out ?_) | (refine wpList_store_new rfl _ (.tmp 15) (.tmp 76) rfl _ _ rfl rfl info8 rfl ?_ ?_; simp [Value.oneCell']))
              rw [show v2.alloc (.cells #[.string zeroO.name, .string zeroO.site, .int .i64 zeroO.t, .int .i64 zeroO.ra, .int .i64 zeroO.dec, .int .i64 zeroO.sg, .int .i64 zeroO.mag, .int .u8 zeroO.band] 33) = v3 from V3.out]
              clear V3 M2 L9 R8b R9 M B
              obtain ⟨H2, E1, E2⟩ := NOT.out NE.out
              have H3 := Lib.hid H2
              have E3 := Lib.hid E1
              have E4 := Lib.hid E2
              have TW := Lib.hid M3.out.two
              clear H2 E1 E2 YES NOT NE HF R8c R9c R10 L10
              go_wp2_with (at_builtin; refine wp_drop _ rfl (.tmp 85) (.tmp 87) rfl w.heap.size _ _ (keptTo l k) (dropTo l k) k rfl (by first | rfl | simp [Act.eval]) TW.out DL.out ?_; intro v' w7 h7 hg7 hat7 hb7)
              have M7 := Lib.hid (M3.out.drop h7 hg7 hat7)
              have B7 := Lib.hid (B3.out.trans hb7)
              clear h7 hg7 hat7 hb7 M3 B3 TW
              go_wp2_with fail
              go_roundw
              case rel => exact ⟨k + 1, g, by omega, by go_num, Lib.hid (by rw [E3.out, E4.out]; exact M7.out), H3, B7⟩
              case measure => simp [intOf]; omega
            | some b0 =>
              have HF := Lib.hid hf
              have r10 := Rw.new v2 (obsC b0) 33
              have l10 := (Below.refl v2.heap.size v2).alloc (Nat.le_refl _) (.cells (obsC b0).toArray 33)
              obtain ⟨v3, hv3⟩ : ∃ v, v2.alloc (.cells (obsC b0).toArray 33) = v := ⟨_, rfl⟩
              rw [hv3] at r10 l10
              have V3 := Lib.hid hv3
              have R10 := Lib.hid r10
              have L10 := Lib.hid (below_then L9.out l10)
              have R8c := Lib.hid (R8b.out.call l10)
              have R9c := Lib.hid (R9.out.call l10)
              have M3 := Lib.hid (M2.out.below l10)
              have B3 := Lib.hid (below_then B.out L10.out)
              clear r10 l10 hv3
              go_upto_region 18 with (first | (refine wpList_load_mid rfl _ (.tmp 14) rfl q1 0 rfl (kyC (kyOf o)) _ R9.out.row Tryz.underlying65 rfl infoKy ?_) | (at_lookup; refine wp_mlook_yes _ rfl (.tmp 73) (.tmp 74) rfl mapK rfl M2.out.mp (kyOf o) rfl GK.out _ HF.out ?_) | (refine wpList_store_new rfl _ (.tmp 15) (.tmp 76) rfl _ _ rfl rfl info8 rfl ?_ ?_; simp [Value.oneCell']))
              rw [show v2.alloc (.cells #[.string b0.name, .string b0.site, .int .i64 b0.t, .int .i64 b0.ra, .int .i64 b0.dec, .int .i64 b0.sg, .int .i64 b0.mag, .int .u8 b0.band] 33) = v3 from V3.out]
              clear V3 M2 L9 R8b R9 M B
              have d0 := R8c.out.cell (j := 0) (v := _) rfl
              have d1 := R8c.out.cell (j := 1) (v := _) rfl
              have d2 := R8c.out.cell (j := 2) (v := _) rfl
              have d3 := R8c.out.cell (j := 3) (v := _) rfl
              have d4 := R8c.out.cell (j := 4) (v := _) rfl
              have d5 := R8c.out.cell (j := 5) (v := _) rfl
              have d6 := R8c.out.cell (j := 6) (v := _) rfl
              have d7 := R8c.out.cell (j := 7) (v := _) rfl
              have e0 := R10.out.cell (j := 0) (v := _) rfl
              have e1 := R10.out.cell (j := 1) (v := _) rfl
              have e2 := R10.out.cell (j := 2) (v := _) rfl
              have e3 := R10.out.cell (j := 3) (v := _) rfl
              have e4 := R10.out.cell (j := 4) (v := _) rfl
              have e5 := R10.out.cell (j := 5) (v := _) rfl
              have e6 := R10.out.cell (j := 6) (v := _) rfl
              have e7 := R10.out.cell (j := 7) (v := _) rfl
              by_cases eo : b0 = o
              · have EQ : ∀ w', (Go.Op.equalIn 10000 33 (.agg #[.string b0.name, .string b0.site, .int .i64 b0.t, .int .i64 b0.ra, .int .i64 b0.dec, .int .i64 b0.sg, .int .i64 b0.mag, .int .u8 b0.band]) (.agg #[.string o.name, .string o.site, .int .i64 o.t, .int .i64 o.ra, .int .i64 o.dec, .int .i64 o.sg, .int .i64 o.mag, .int .u8 o.band])).run Tryz.prog w' = .ok true w' := fun w' => by
                  have := obs_eql b0 o w'
                  rw [decide_eq_true eo] at this
                  exact this
                obtain ⟨H2, E1, E2⟩ := YES.out (by rw [hf, eo])
                have H3 := Lib.hid H2
                have E3 := Lib.hid E1
                have E4 := Lib.hid E2
                clear H2 E1 E2 YES NOT hf eo
                go_upto_region 20 with fail
                clear EQ d0 e0 d1 e1 d2 e2 d3 e3 d4 e4 d5 e5 d6 e6 d7 e7
                go_upto_region 21 with (first | (refine wpList_load_mid rfl _ (.tmp 14) rfl q1 0 rfl (kyC (kyOf o)) _ R9c.out.row Tryz.underlying65 rfl infoKy ?_) | (at_delete; refine wp_mdrop _ rfl (.tmp 89) (.tmp 90) rfl mapK rfl M3.out.mp (kyOf o) rfl GK.out ?_; intro w6 hm6 ht6))
                have ltm := M3.out.mp.lt
                have R11 := Lib.hid (R8c.out.only (turned_only ht6 ltm) (Nat.ne_of_gt MN.out))
                have M6 := Lib.hid (M3.out.turned ht6 hm6)
                have B6 := Lib.hid (B3.out.trans (turned_below ht6 MW.out (Nat.le_trans MW.out (Nat.le_of_lt ltm))))
                have TW := Lib.hid M6.out.two
                clear hm6 ht6 ltm M3 B3 R8c R9c R10 L10
                go_wp2_with (first | (refine wpList_load_mid rfl _ (.tmp 13) rfl wr.heap.size 0 rfl (obsC o) _ R11.out.row Tryz.underlying33 rfl info8 ?_) | (at_builtin; refine wp_keep _ rfl (.tmp 91) (.tmp 93) rfl w.heap.size _ _ (keptTo l k) (dropTo l k) o rfl (by first | rfl | simp [Act.eval]) TW.out KL.out ?_; intro v' w7 h7 hg7 hat7 hb7))
                have M7 := Lib.hid (M6.out.keep h7 hg7 hat7)
                have B7 := Lib.hid (B6.out.trans hb7)
                clear h7 hg7 hat7 hb7 M6 B6 TW R11
                go_wp2_with fail
                go_roundw
                case rel => exact ⟨k + 1, _, by omega, by go_num, Lib.hid (by rw [E3.out, E4.out]; exact M7.out), H3, B7⟩
                case measure => simp [intOf]; omega
              · have EQ : ∀ w', (Go.Op.equalIn 10000 33 (.agg #[.string b0.name, .string b0.site, .int .i64 b0.t, .int .i64 b0.ra, .int .i64 b0.dec, .int .i64 b0.sg, .int .i64 b0.mag, .int .u8 b0.band]) (.agg #[.string o.name, .string o.site, .int .i64 o.t, .int .i64 o.ra, .int .i64 o.dec, .int .i64 o.sg, .int .i64 o.mag, .int .u8 o.band])).run Tryz.prog w' = .ok false w' := fun w' => by
                  have := obs_eql b0 o w'
                  rw [decide_eq_false eo] at this
                  exact this
                have NE : Hid (g (kyOf o) ≠ some o) := Lib.hid (by rw [hf]; exact fun h => eo (Option.some.inj h))
                clear hf eo
                go_upto_region 19 with fail
                clear EQ d0 e0 d1 e1 d2 e2 d3 e3 d4 e4 d5 e5 d6 e6 d7 e7
                obtain ⟨H2, E1, E2⟩ := NOT.out NE.out
                have H3 := Lib.hid H2
                have E3 := Lib.hid E1
                have E4 := Lib.hid E2
                have TW := Lib.hid M3.out.two
                clear H2 E1 E2 YES NOT NE HF R8c R9c R10 L10
                go_wp2_with (at_builtin; refine wp_drop _ rfl (.tmp 85) (.tmp 87) rfl w.heap.size _ _ (keptTo l k) (dropTo l k) k rfl (by first | rfl | simp [Act.eval]) TW.out DL.out ?_; intro v' w7 h7 hg7 hat7 hb7)
                have M7 := Lib.hid (M3.out.drop h7 hg7 hat7)
                have B7 := Lib.hid (B3.out.trans hb7)
                clear h7 hg7 hat7 hb7 M3 B3 TW
                go_wp2_with fail
                go_roundw
                case rel => exact ⟨k + 1, g, by omega, by go_num, Lib.hid (by rw [E3.out, E4.out]; exact M7.out), H3, B7⟩
                case measure => simp [intOf]; omega
          · obtain rfl : k = j := by omega
            have hsv := slV_of M.out.two.kp.1
            have IV := Lib.hid (Own1.intV M.out.two.dp)
            obtain ⟨ka, kc, rfl, hsl⟩ := hsv
            have zk : (keptTo l k).length ≤ 1000000 := by have := (LN.out k).1; omega
            have SO := Lib.hid (sort_any ka kc (keptTo l k) wr (HE.out _ B.out) hsl zk KB.out)
            have KZ := Lib.hid (ZK.out k (by have := NL.out; omega))
            clear hsl M H HL HE KEYS ZK KB LN zk
            go_wp2_with fail
            refine SO.out.mono ?_
            rintro e w8 ⟨v8, y, c, rfl, hs, hv, hb8⟩
            obtain ⟨sp, so, rfl⟩ : y.Perm (keptTo l k) ∧ ordL y ∧ c = 0 := by
              rcases hs with ⟨_, h1, h2, h3⟩ | ⟨h1, _⟩
              · exact ⟨h1, h2, h3⟩
              · exact absurd KZ.out h1
            have F := Lib.hid (FIN.out y sp so)
            have V8 := Lib.hid hv
            have I8 := Lib.hid (IV.out.below hb8)
            have B8 := Lib.hid (below_then B.out hb8)
            clear hs hv hb8 sp so IV B SO FIN KZ
            go_wp2_with fail
            go_ret3
            exact ⟨_, _, y, _, 0, rfl, F.out, V8.out, I8.out, B8.out⟩
  · have FIN := Lib.hid (show MergeIs l [] [] (allC l) from Or.inr ⟨hz, rfl, rfl, rfl⟩)
    have hnz : (allC l != 0) = true := by rw [bne, beq_eq_false_iff_ne.2 hz]; rfl
    have SA : Hid (∀ y c, SortIs l y c → c = allC l) := Lib.hid (fun y c h => by
      rcases h with ⟨h, _⟩ | ⟨_, _, h⟩
      · exact absurd h hz
      · exact h)
    clear hl hE hb hnl hm HL HE hz
    generalize allC l = K at *
    go_enter Tryz.func10, Tryz.ntmps10
    go_wp2_with fail
    refine SO.out.mono ?_
    rintro e w1 ⟨v0, s, c, rfl, hs, hv, hb1⟩
    obtain rfl := SA.out s c hs
    have B1 := Lib.hid hb1
    clear hs hv hb1 SO SA
    go_wp2_with fail
    go_ret3
    exact ⟨_, _, [], [], _, rfl, FIN.out, SlV.nil _, IntV.nil _, B1.out⟩
end Vw
end Go.Proofs.YtaghilgfldaaiaaGreatDoor
/-
  The walk of Sort of the reference.
-/
namespace Go.Proofs.YtaghilgfldaaiaaGreatDoor
namespace Ow
open Go.RowKit Lw Go.Proofs.YtaghilgfldaaiaaGreatDoor.Ap Go.Proofs.YtaghilgfldaaiaaGreatDoor.Op Go.Proofs.YtaghilgfldaaiaaGreatDoor.Mp Go.Proofs.YtaghilgfldaaiaaGreatDoor.Mw Go.Proofs.YtaghilgfldaaiaaGreatDoor.At

theorem OBs.perm {y l : List Ob} (h : OBs l) (p : y.Perm l) : OBs y := fun i hi => by
  have := p.subset (List.getElem_mem hi)
  obtain ⟨k, hk, e⟩ := List.getElem_of_mem this
  rw [← e]; exact h k hk
end Ow
end Go.Proofs.YtaghilgfldaaiaaGreatDoor
/-
  The walk of Same of the reference at equal lists; Great at any slice; a copy of a slice.
-/
namespace Go.Proofs.YtaghilgfldaaiaaGreatDoor
namespace Ow
open Go.RowKit Lw Go.Proofs.YtaghilgfldaaiaaGreatDoor.Ap Go.Proofs.YtaghilgfldaaiaaGreatDoor.Op Go.Proofs.YtaghilgfldaaiaaGreatDoor.Mp Go.Proofs.YtaghilgfldaaiaaGreatDoor.Mw Go.Proofs.YtaghilgfldaaiaaGreatDoor.At

set_option maxRecDepth 100000 in
set_option maxHeartbeats 40000000 in
theorem same_any (x y : Option Addr) (c d : Nat) (l : List Ob) (w : World) (hx : SlA w x l) (hy : SlA w y l) (hm : l.length ≤ 1000000) :
    Calls Tryz.prog 12 #[.slice x l.length c, .slice y l.length d] w fun e w' => e = .returned (.bool true) ∧ Below w.heap.size w w' := by
  have HX := Lib.hid (fun w' (h : Below w.heap.size w w') => hx.below h)
  have HY := Lib.hid (fun w' (h : Below w.heap.size w w') => hy.below h)
  obtain ⟨n, hnl⟩ : ∃ n, l.length = n := ⟨_, rfl⟩
  rw [hnl] at hm ⊢
  have NL := Lib.hid hnl
  clear hx hy hnl
  go_enter Tryz.func12, Tryz.ntmps12
  go_wp2_with fail
  go_loopw [5] (fun i wr => ∃ k : Nat, k ≤ n ∧ i = .int .i64 k ∧ Hid (Below w.heap.size w wr)) (fun i _ => n - (intOf i).toNat)
  case atStart => exact ⟨0, Nat.zero_le _, rfl, Lib.hid (Below.refl _ _)⟩
  case round =>
    obtain ⟨k, hk, rfl, B⟩ := hrel
    by_cases hlt : k < n
    · have hkl : k < l.length := by rw [NL.out]; exact hlt
      obtain ⟨b1, o1, rfl, lt1, row1⟩ := (HX.out _ B.out).get hkl
      obtain ⟨b2, o2, rfl, lt2, row2⟩ := (HY.out _ B.out).get hkl
      have R1 := Lib.hid row1
      have R2 := Lib.hid row2
      have i1 : (k : Int) < (n : Int) := by omega
      have i0 : (0 : Int) ≤ (k : Int) := by omega
      have BD := Lib.hid (B.out.trans ((Below.refl _ _).drew.mono B.out.size))
      obtain ⟨o, ho⟩ : ∃ o, l[k] = o := ⟨_, rfl⟩
      have Q1 := Lib.hid (show wr.drew.rangeAt b1 (o1 + k * 8) (obsC o) by rw [← ho]; exact rangeAt_below (row1 k hkl) (Below.refl _ _).drew lt1)
      have Q2 := Lib.hid (show wr.drew.rangeAt b2 (o2 + k * 8) (obsC o) by rw [← ho]; exact rangeAt_below (row2 k hkl) (Below.refl _ _).drew lt2)
      clear row1 row2 R1 R2 lt1 lt2 ho
      go_wp2_with fail
      refine wp_region_held_drew (S := fun w' => w' = wr.drew) (by kernel_rfl) rfl (fun hHeld => ?_)
      refine wpAnyH_take (i := 0) (oi := ?oi0x1) (v := ?v0x1) ?hi0x1 (by kernel_rfl) (by kernel_rfl) (by kernel_rfl) ?hq0x1 ?hy0x1 hHeld ?rest0x1
      case hi0x1 => ((try simp only [List.getElem?_toArray, List.getElem?_cons_succ, List.getElem?_cons_zero]); (try rfl))
      case hq0x1 => exact fun _ _ _ h => h
      case hy0x1 => exact Or.inl ⟨by rfl, by intro w hSw; clear hSw; go_simp; try with_reducible rfl⟩
      try simp only [Act.put, List.setIfInBounds_toArray, List.set_cons_zero, List.set_cons_succ]
      refine wpAnyH_take (i := 1) (oi := ?oi1x2) (v := ?v1x2) ?hi1x2 (by kernel_rfl) (by kernel_rfl) (by kernel_rfl) ?hq1x2 ?hy1x2 hHeld ?rest1x2
      case hi1x2 => ((try simp only [List.getElem?_toArray, List.getElem?_cons_succ, List.getElem?_cons_zero]); (try rfl))
      case hq1x2 => exact fun _ _ _ h => h
      case hy1x2 => exact Or.inl ⟨by rfl, by intro w hSw; clear hSw; go_simp; try with_reducible rfl⟩
      try simp only [Act.put, List.setIfInBounds_toArray, List.set_cons_zero, List.set_cons_succ]
      refine wpAnyH_take (i := 2) (oi := ?oi2x3) (v := ?v2x3) ?hi2x3 (by kernel_rfl) (by kernel_rfl) (by kernel_rfl) ?hq2x3 ?hy2x3 hHeld ?rest2x3
      case hi2x3 => ((try simp only [List.getElem?_toArray, List.getElem?_cons_succ, List.getElem?_cons_zero]); (try rfl))
      case hq2x3 => exact fun _ _ _ h => h
      case hy2x3 => exact Or.inl ⟨by rfl, by intro w hSw; clear hSw; go_simp; try with_reducible rfl⟩
      try simp only [Act.put, List.setIfInBounds_toArray, List.set_cons_zero, List.set_cons_succ]
      refine wpAnyH_take (i := 3) (oi := ?oi3x4) (v := ?v3x4) ?hi3x4 (by kernel_rfl) (by kernel_rfl) (by kernel_rfl) ?hq3x4 ?hy3x4 hHeld ?rest3x4
      case hi3x4 => ((try simp only [List.getElem?_toArray, List.getElem?_cons_succ, List.getElem?_cons_zero]); (try rfl))
      case hq3x4 => exact fun _ _ _ h => h
      case hy3x4 => 
        refine' yieldsIf_load_mid ?_ 33 (.tmp 19) ?_ b1 (o1 + k * 8) ?_ (obsC o) _ ?_ Tryz.underlying33 ?_ info8
        · rfl
        · rfl
        · rfl
        · exact fun _ h => by rw [h]; exact Q1.out
        · rfl
      try simp only [Act.put, List.setIfInBounds_toArray, List.set_cons_zero, List.set_cons_succ]
      refine wpAnyH_take (i := 4) (oi := ?oi4x5) (v := ?v4x5) ?hi4x5 (by kernel_rfl) (by kernel_rfl) (by kernel_rfl) ?hq4x5 ?hy4x5 hHeld ?rest4x5
      case hi4x5 => ((try simp only [List.getElem?_toArray, List.getElem?_cons_succ, List.getElem?_cons_zero]); (try rfl))
      case hq4x5 => exact fun _ _ _ h => h
      case hy4x5 => exact Or.inl ⟨by rfl, by intro w hSw; clear hSw; go_simp; try with_reducible rfl⟩
      try simp only [Act.put, List.setIfInBounds_toArray, List.set_cons_zero, List.set_cons_succ]
      refine wpAnyH_take (i := 5) (oi := ?oi5x6) (v := ?v5x6) ?hi5x6 (by kernel_rfl) (by kernel_rfl) (by kernel_rfl) ?hq5x6 ?hy5x6 hHeld ?rest5x6
      case hi5x6 => ((try simp only [List.getElem?_toArray, List.getElem?_cons_succ, List.getElem?_cons_zero]); (try rfl))
      case hq5x6 => exact fun _ _ _ h => h
      case hy5x6 => exact Or.inl ⟨by rfl, by intro w hSw; clear hSw; go_simp; try with_reducible rfl⟩
      try simp only [Act.put, List.setIfInBounds_toArray, List.set_cons_zero, List.set_cons_succ]
      refine wpAnyH_take (i := 6) (oi := ?oi6x7) (v := ?v6x7) ?hi6x7 (by kernel_rfl) (by kernel_rfl) (by kernel_rfl) ?hq6x7 ?hy6x7 hHeld ?rest6x7
      case hi6x7 => ((try simp only [List.getElem?_toArray, List.getElem?_cons_succ, List.getElem?_cons_zero]); (try rfl))
      case hq6x7 => exact fun _ _ _ h => h
      case hy6x7 => exact Or.inl ⟨by rfl, by intro w hSw; clear hSw; go_simp; try with_reducible rfl⟩
      try simp only [Act.put, List.setIfInBounds_toArray, List.set_cons_zero, List.set_cons_succ]
      refine wpAnyH_take (i := 7) (oi := ?oi7x8) (v := ?v7x8) ?hi7x8 (by kernel_rfl) (by kernel_rfl) (by kernel_rfl) ?hq7x8 ?hy7x8 hHeld ?rest7x8
      case hi7x8 => ((try simp only [List.getElem?_toArray, List.getElem?_cons_succ, List.getElem?_cons_zero]); (try rfl))
      case hq7x8 => exact fun _ _ _ h => h
      case hy7x8 => 
        refine' yieldsIf_load_mid ?_ 33 (.tmp 23) ?_ b2 (o2 + k * 8) ?_ (obsC o) _ ?_ Tryz.underlying33 ?_ info8
        · rfl
        · rfl
        · rfl
        · exact fun _ h => by rw [h]; exact Q2.out
        · rfl
      try simp only [Act.put, List.setIfInBounds_toArray, List.set_cons_zero, List.set_cons_succ]
      refine wpAnyH_take (i := 8) (oi := ?oi8x9) (v := ?v8x9) ?hi8x9 (by kernel_rfl) (by kernel_rfl) (by kernel_rfl) ?hq8x9 ?hy8x9 hHeld ?rest8x9
      case hi8x9 => ((try simp only [List.getElem?_toArray, List.getElem?_cons_succ, List.getElem?_cons_zero]); (try rfl))
      case hq8x9 => exact fun _ _ _ h => h
      case hy8x9 => exact Or.inl ⟨by rfl, by intro w hSw; clear hSw; go_simp; try with_reducible rfl⟩
      try simp only [Act.put, List.setIfInBounds_toArray, List.set_cons_zero, List.set_cons_succ]
      refine wpAnyH_done (by kernel_rfl) ?_ _
      clear hHeld Q1 Q2
      go_wp2_with fail
      go_roundw
      case rel => exact ⟨k + 1, by omega, by go_num, BD⟩
      case measure => simp [intOf]; omega
    · obtain rfl : k = n := by omega
      clear HX HY
      go_wp2_with fail
      go_ret
      exact ⟨rfl, B.out⟩
set_option maxRecDepth 100000 in
set_option maxHeartbeats 4000000 in
theorem great_wide (b off cap : Nat) (l : List Ob) (most : Int) (w : World) (hl : ObsAt w b off l) (hm : l.length ≤ 9223372036854775807) (hn : ∀ o ∈ l, o.name.size ≤ maxLen ∧ o.site.size ≤ maxLen) :
    Calls Tryz.prog 9 #[.slice (some ⟨b, off, none⟩) l.length cap, .int .i64 most] w fun e w' => e = .returned (.bool (greatB l most)) ∧ w = w' := by
  have HL := Lib.hid hl
  have HN := Lib.hid hn
  have GY := Lib.hid (fun i (h : i < l.length) (g : longP l[i]) => great_yes (most := most) h g)
  obtain ⟨n, hnl⟩ : ∃ n, l.length = n := ⟨_, rfl⟩
  have GN : Hid ((∀ i (hi : i < l.length), ¬ longP (l[i]'hi)) → greatB l most = decide ((most < (n : Int) ∧ (n : Int) ≤ 500) ∨ 510 < (n : Int))) := Lib.hid fun h => by rw [great_no h, hnl]
  clear hl hn
  generalize greatB l most = gb at *
  rw [hnl] at hm ⊢
  have NL := Lib.hid hnl
  clear hnl
  go_enter Tryz.func9, Tryz.ntmps9
  go_wp2_with fail
  go_loop [5] (fun i => ∃ k : Nat, k ≤ n ∧ i = .int .i64 k ∧ Hid (∀ j (h : j < l.length), j < k → ¬ longP (l[j]'h))) (fun i => n - (intOf i).toNat)
  case atStart => exact ⟨0, Nat.zero_le _, rfl, Lib.hid (fun j _ h => by omega)⟩
  case round =>
    obtain ⟨k, hk, rfl, D⟩ := hrel
    by_cases hlt : k < n
    · have hkl : k < l.length := by rw [NL.out]; exact hlt
      have r := HL.out k hkl
      have q0 := r 0 _ rfl
      have q1 := r 1 _ rfl
      rw [Nat.add_zero] at q0
      have i1 : (k : Int) < (n : Int) := by omega
      have GYk := Lib.hid (GY.out k hkl)
      have DK := Lib.hid (fun (g : ¬ longP (l[k]'hkl)) => (show ∀ j (h : j < l.length), j < k + 1 → ¬ longP (l[j]'h) from fun j h hj => by
        by_cases e : j = k
        · subst e; exact g
        · exact D.out j h (by omega)))
      have zz := HN.out _ (List.getElem_mem hkl)
      unfold longP maxLen at *
      clear r D
      generalize (l[k]'hkl).name = nm at *
      generalize (l[k]'hkl).site = st at *
      obtain ⟨z1, z2⟩ := zz
      by_cases g1 : 100 < nm.size
      · have e := Lib.hid (GYk.out (Or.inl g1))
        have g1' : (100 : Int) < nm.size := by omega
        clear GYk DK
        go_wp2_with fail
        go_ret
        exact ⟨by rw [e.out]; rfl, rfl⟩
      · have g1' : ¬ (100 : Int) < nm.size := by omega
        by_cases g2 : 100 < st.size
        · have e := Lib.hid (GYk.out (Or.inr g2))
          have g2' : (100 : Int) < st.size := by omega
          clear GYk DK
          go_wp2_with fail
          go_ret
          exact ⟨by rw [e.out]; rfl, rfl⟩
        · have g2' : ¬ (100 : Int) < st.size := by omega
          have D2 := Lib.hid (DK.out (fun h => h.elim g1 g2))
          clear GYk DK
          go_wp2_with fail
          go_round
          case rel => exact ⟨k + 1, by omega, by go_num, D2⟩
          case measure => simp [intOf]; omega
    · obtain rfl : k = n := by omega
      have E := Lib.hid (GN.out (fun i hi => D.out i hi (by have := NL.out; omega)))
      clear GN D GY HN
      by_cases c1 : most < (k : Int)
      · by_cases c2 : (k : Int) ≤ 500
        · rw [decide_eq_true (Or.inl ⟨c1, c2⟩)] at E
          go_wp2_with fail
          go_ret
          exact ⟨by rw [E.out]; rfl, rfl⟩
        · by_cases c3 : 510 < (k : Int)
          · rw [decide_eq_true (Or.inr c3)] at E
            go_wp2_with fail
            go_ret
            exact ⟨by rw [E.out]; rfl, rfl⟩
          · rw [decide_eq_false (fun h => h.elim (fun x => c2 x.2) c3)] at E
            go_wp2_with fail
            go_ret
            exact ⟨by rw [E.out]; rfl, rfl⟩
      · by_cases c3 : 510 < (k : Int)
        · rw [decide_eq_true (Or.inr c3)] at E
          go_wp2_with fail
          go_ret
          exact ⟨by rw [E.out]; rfl, rfl⟩
        · rw [decide_eq_false (fun h => h.elim (fun x => c1 x.1) c3)] at E
          go_wp2_with fail
          go_ret
          exact ⟨by rw [E.out]; rfl, rfl⟩
set_option maxRecDepth 100000 in
set_option maxHeartbeats 40000000 in
theorem great_nil (x : Option Addr) (cap : Nat) (w : World) : Calls Tryz.prog 9 #[.slice x 0 cap, .int .i64 12] w fun e w' => e = .returned (.bool false) ∧ w = w' := by
  go_enter Tryz.func9, Tryz.ntmps9
  go_wp2_with fail
  go_loop [5] (fun i => i = .int .i64 0) (fun i => 0 - (intOf i).toNat)
  case atStart => exact rfl
  case round =>
    obtain rfl := hrel
    go_wp2_with fail
    go_ret
    exact ⟨rfl, rfl⟩
theorem great_sl (x : Option Addr) (cap : Nat) (l : List Ob) (w : World) (hx : SlA w x l) (hm : l.length ≤ 9223372036854775807) (hb : OBs l) :
    Calls Tryz.prog 9 #[.slice x l.length cap, .int .i64 12] w fun e w' => e = .returned (.bool (greatB l 12)) ∧ w = w' := by
  rcases hx with rfl | ⟨b, off, rfl, _, h⟩
  · refine (great_nil x cap w).mono ?_
    rintro e w' ⟨rfl, rfl⟩
    exact ⟨rfl, rfl⟩
  · exact great_wide b off cap l 12 w h hm (fun o ho => by
      obtain ⟨i, hi, rfl⟩ := List.getElem_of_mem ho
      exact ⟨(hb i hi).n1, (hb i hi).n2⟩)
end Ow
end Go.Proofs.YtaghilgfldaaiaaGreatDoor
