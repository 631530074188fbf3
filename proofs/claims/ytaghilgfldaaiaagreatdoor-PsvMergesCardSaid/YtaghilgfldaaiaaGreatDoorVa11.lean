/-
  Lemmas and walks, texts joined: VRMg.
-/
import Derived.Deep.RegionHeld3
import Derived.Test.YtaghilgfldaaiaaGreatDoorVa06
import Derived.Test.YtaghilgfldaaiaaGreatDoorVa09
import Derived.Test.YtaghilgfldaaiaaGreatDoorVa10
set_option linter.unusedSimpArgs false
set_option linter.unusedVariables false
/-
  The walk of Merge of the reference.
-/
namespace Go.Proofs.YtaghilgfldaaiaaGreatDoor
namespace Vw
open Go.RowKit Lw Go.Proofs.YtaghilgfldaaiaaGreatDoor.Ap Go.Proofs.YtaghilgfldaaiaaGreatDoor.Vp Go.Proofs.YtaghilgfldaaiaaGreatDoor.Op Go.Proofs.YtaghilgfldaaiaaGreatDoor.Ow Go.Proofs.YtaghilgfldaaiaaGreatDoor.Mp Go.Proofs.YtaghilgfldaaiaaGreatDoor.Mw Go.Proofs.YtaghilgfldaaiaaGreatDoor.At Go.Maps

/-- What stays while two are held against each other. -/
structure SR (w0 : World) (vk : Value) (K : List Ob) (vd : Value) (D : List Nat) (b off i k : Nat) (p q : Ob) (w : World) : Prop where
  rp : w.rangeAt b (off + i * 8) (obsC p)
  rq : w.rangeAt b (off + k * 8) (obsC q)
  lt : b < w.heap.size
  two : W2 w0.heap.size vk K vd D w
  below : Below w0.heap.size w0 w
theorem SR.call {w0 : World} {vk : Value} {K : List Ob} {vd : Value} {D : List Nat} {b off i k : Nat} {p q : Ob} {w w' : World} (h : SR w0 vk K vd D b off i k p q w) (hb : Below w.heap.size w w') : SR w0 vk K vd D b off i k p q w' :=
  ⟨rangeAt_below h.rp hb h.lt, rangeAt_below h.rq hb h.lt, Nat.lt_of_lt_of_le h.lt hb.size, h.two.below hb, below_then h.below hb⟩
theorem best_keep {l : List Ob} {i k : Nat} (h : ¬ beats l i k) : decide (bestN l i (k + 1)) = decide (bestN l i k) := by
  by_cases g : bestN l i k
  · rw [decide_eq_true g]; exact decide_eq_true (bestN_succ.2 ⟨g, h⟩)
  · rw [decide_eq_false g]; exact decide_eq_false (fun x => g (bestN_succ.1 x).1)
theorem best_lose {l : List Ob} {i k : Nat} (h : beats l i k) : decide (bestN l i (k + 1)) = false := decide_eq_false (fun x => (bestN_succ.1 x).2 h)
set_option maxRecDepth 100000 in
set_option maxHeartbeats 40000000 in
theorem rmerge_any (x : Option Addr) (cap : Nat) (l : List Ob) (w : World) (hl : SlA w x l) (hm : l.length ≤ 1000000) (hb : OBs l) :
    Calls Tryz.prog 11 #[.slice x l.length cap] w (MergePost l w) := by
  have HL := Lib.hid (fun w' (h : Below w.heap.size w w') => hl.below h)
  have CA := Lib.hid (rall_any x cap l w hl hm hb)
  have BD := Lib.hid (fun i (h : i < l.length) => hb i h)
  obtain ⟨n, hnl⟩ : ∃ n, l.length = n := ⟨_, rfl⟩
  by_cases hz : allC l = 0
  · have n5 : n ≤ 500 := by have := (allC_ok hz).1; omega
    have ZK := Lib.hid (fun i (h : i ≤ l.length) => kept_ok hz i h)
    have KB : Hid (OBs (keptTo l n)) := Lib.hid (fun i hi => by
      obtain ⟨j, hj, _, _, e⟩ := keptTo_mem (List.getElem_mem hi)
      rw [← e]
      exact hb j hj)
    have FIN : Hid (∀ y, y.Perm (keptTo l n) → ordL y → MergeIs l y (dropTo l n) 0) := Lib.hid (fun y h g => by
      subst hnl
      exact Or.inl ⟨hz, h, g, rfl, rfl⟩)
    have LN := Lib.hid (fun i => keptTo_len l i)
    rw [hz] at CA
    rw [hnl] at CA ⊢
    have NL := Lib.hid hnl
    clear hl hb hnl hm hz
    go_enter Tryz.func11, Tryz.ntmps11
    go_wp2_with fail
    refine CA.out.mono ?_
    rintro e w1 ⟨rfl, hb1⟩
    have B0 := Lib.hid hb1
    have M0 : Hid (W2 w.heap.size (.slice none 0 0) (keptTo l 0) (.slice none 0 0) (dropTo l 0) w1) := Lib.hid (W2.nil _ _ hb1.size)
    clear hb1 CA
    go_wp2_with fail
    go_loopw [6, 7, 8] (fun a1 a2 iv wr => ∃ (i : Nat) (vk vd : Value), i ≤ n ∧ iv = .int .i64 i ∧ vk = a1 ∧ vd = a2 ∧ Hid (W2 w.heap.size vk (keptTo l i) vd (dropTo l i) wr) ∧ Hid (Below w.heap.size w wr)) (fun _ _ iv _ => n - (intOf iv).toNat)
    case atStart => exact ⟨0, _, _, Nat.zero_le _, rfl, rfl, rfl, M0, B0⟩
    case round =>
      obtain ⟨i, vk, vd, hi, rfl, rfl, rfl, M, B⟩ := hrel
      clear M0 B0
      by_cases hlt : i < n
      · have hil : i < l.length := by rw [NL.out]; exact hlt
        have i1 : (i : Int) < (n : Int) := by omega
        have i0 : (0 : Int) ≤ (i : Int) := by omega
        have D0 : decide (bestN l i 0) = true := decide_eq_true (bestN_zero l i)
        go_wp2_with fail
        obtain ⟨WO, hWO⟩ : ∃ W, W = wr := ⟨_, rfl⟩
        subst hWO
        go_loopw [9, 10] (fun bv kv wr => ∃ k : Nat, k ≤ n ∧ kv = .int .i64 k ∧ bv = .bool (decide (bestN l i k)) ∧ Hid (W2 w.heap.size vk (keptTo l i) vd (dropTo l i) wr) ∧ Hid (Below w.heap.size w wr)) (fun _ kv _ => n - (intOf kv).toNat)
        case atStart => exact ⟨0, Nat.zero_le _, rfl, by rw [D0], M, B⟩
        case round =>
          obtain ⟨k, hk, rfl, rfl, M2, B2⟩ := hrel
          clear M B D0
          by_cases hlt2 : k < n
          · have hkl : k < l.length := by rw [NL.out]; exact hlt2
            have k1 : (k : Int) < (n : Int) := by omega
            have k0 : (0 : Int) ≤ (k : Int) := by omega
            obtain ⟨b, off, rfl, lt, row⟩ := (HL.out _ B2.out).get hil
            have bp := BD.out i hil
            have bq := BD.out k hkl
            obtain ⟨p, hp⟩ : ∃ p, l[i]'hil = p := ⟨_, rfl⟩
            obtain ⟨q, hq⟩ : ∃ q, l[k]'hkl = q := ⟨_, rfl⟩
            have X : Hid (SR w vk (keptTo l i) vd (dropTo l i) b off i k p q wr.drew) := Lib.hid ((SR.call ⟨by rw [← hp]; exact row i hil, by rw [← hq]; exact row k hkl, lt, M2.out, B2.out⟩ (Below.refl _ _).drew))
            have BT : beats l i k ↔ (k ≠ i ∧ kyOf p = kyOf q ∧ (betP q p ∨ (k < i ∧ ¬ betP p q))) := by
              subst hp hq
              exact ⟨fun ⟨_, _, h⟩ => h, fun h => ⟨hil, hkl, h⟩⟩
            have KEEP : Hid (¬ (k ≠ i ∧ kyOf p = kyOf q ∧ (betP q p ∨ (k < i ∧ ¬ betP p q))) → Value.bool (decide (bestN l i k)) = .bool (decide (bestN l i (k + 1)))) := Lib.hid (fun h => by rw [best_keep (fun g => h (BT.1 g))])
            have BEAT : Hid ((k ≠ i ∧ kyOf p = kyOf q ∧ (betP q p ∨ (k < i ∧ ¬ betP p q))) → decide (bestN l i (k + 1)) = false) := Lib.hid (fun h => best_lose (BT.2 h))
            rw [hp] at bp
            rw [hq] at bq
            have TW := Lib.hid (fun w' => twins_any p q w')
            have BQ := Lib.hid (fun w' => better_any q p w' ⟨bq.b0, bq.b1⟩ ⟨bp.b0, bp.b1⟩)
            have BP := Lib.hid (fun w' => better_any p q w' ⟨bp.b0, bp.b1⟩ ⟨bq.b0, bq.b1⟩)
            clear row lt hp hq bp bq BT M2 B2 KB FIN ZK
            generalize decide (bestN l i k) = DK at *
            by_cases e1 : k = i
            · have n1 : ((k : Int) != (i : Int)) = false := by rw [e1]; simp
              have DD := Lib.hid (KEEP.out (fun h => h.1 e1))
              clear TW BQ BP BEAT KEEP e1
              go_upto_region 13 with fail
              refine wp_region_held_drew (S := fun wx => SR w vk (keptTo l i) vd (dropTo l i) b off i k p q wx) (by kernel_rfl) X.out (fun hHeld => ?_)
              refine wpAnyH_take (i := 0) (oi := ?oi0x1) (v := ?v0x1) ?hi0x1 (by kernel_rfl) (by kernel_rfl) (by kernel_rfl) ?hq0x1 ?hy0x1 hHeld ?rest0x1
              case hi0x1 => ((try simp only [List.getElem?_toArray, List.getElem?_cons_succ, List.getElem?_cons_zero]); (try rfl))
              case hq0x1 => exact fun _ _ _ h => h
              case hy0x1 => exact Or.inl ⟨by rfl, by intro w hSw; clear hSw; go_simp; try with_reducible rfl⟩
              try simp only [Act.put, List.setIfInBounds_toArray, List.set_cons_zero, List.set_cons_succ]
              refine wpAnyH_take (i := 1) (oi := ?oi1x2) (v := ?v1x2) ?hi1x2 (by kernel_rfl) (by kernel_rfl) (by kernel_rfl) ?hq1x2 ?hy1x2 hHeld ?rest1x2
              case hi1x2 => ((try simp only [List.getElem?_toArray, List.getElem?_cons_succ, List.getElem?_cons_zero]); (try rfl))
              case hq1x2 => exact fun _ _ _ h => h
              case hy1x2 => exact Or.inl ⟨by rfl, by intro w hSw; clear hSw; go_simp; try with_reducible rfl⟩
              try simp only [Act.put, List.setIfInBounds_toArray, List.set_cons_zero, List.set_cons_succ]
              refine wpAnyH_take (i := 2) (oi := ?oi2x3) (v := ?v2x3) ?hi2x3 (by kernel_rfl) (by kernel_rfl) (by kernel_rfl) ?hq2x3 ?hy2x3 hHeld ?rest2x3
              case hi2x3 => ((try simp only [List.getElem?_toArray, List.getElem?_cons_succ, List.getElem?_cons_zero]); (try rfl))
              case hq2x3 => exact fun _ _ _ h => h
              case hy2x3 => exact Or.inl ⟨by rfl, by intro w hSw; clear hSw; go_simp; try with_reducible rfl⟩
              try simp only [Act.put, List.setIfInBounds_toArray, List.set_cons_zero, List.set_cons_succ]
              refine wpAnyH_take (i := 3) (oi := ?oi3x4) (v := ?v3x4) ?hi3x4 (by kernel_rfl) (by kernel_rfl) (by kernel_rfl) ?hq3x4 ?hy3x4 hHeld ?rest3x4
              case hi3x4 => ((try simp only [List.getElem?_toArray, List.getElem?_cons_succ, List.getElem?_cons_zero]); (try rfl))
              case hq3x4 => exact fun _ _ _ h => h
              case hy3x4 => exact Or.inl ⟨by rfl, by intro w hSw; clear hSw; go_simp; try with_reducible rfl⟩
              try simp only [Act.put, List.setIfInBounds_toArray, List.set_cons_zero, List.set_cons_succ]
              refine wpAnyH_take (i := 4) (oi := ?oi4x5) (v := undef) ?hi4x5 (by kernel_rfl) (by kernel_rfl) (by kernel_rfl) ?hq4x5 ?hy4x5 hHeld ?rest4x5
              case hi4x5 => ((try simp only [List.getElem?_toArray, List.getElem?_cons_succ, List.getElem?_cons_zero]); (try rfl))
              case hq4x5 => exact fun _ _ _ h => h
              case hy4x5 => exact Or.inr ⟨by rfl, rfl⟩
              try simp only [Act.put, List.setIfInBounds_toArray, List.set_cons_zero, List.set_cons_succ]
              refine wpAnyH_take (i := 5) (oi := ?oi5x6) (v := undef) ?hi5x6 (by kernel_rfl) (by kernel_rfl) (by kernel_rfl) ?hq5x6 ?hy5x6 hHeld ?rest5x6
              case hi5x6 => ((try simp only [List.getElem?_toArray, List.getElem?_cons_succ, List.getElem?_cons_zero]); (try rfl))
              case hq5x6 => exact fun _ _ _ h => h
              case hy5x6 => exact Or.inr ⟨by rfl, rfl⟩
              try simp only [Act.put, List.setIfInBounds_toArray, List.set_cons_zero, List.set_cons_succ]
              refine wpAnyH_take (i := 6) (oi := ?oi6x7) (v := undef) ?hi6x7 (by kernel_rfl) (by kernel_rfl) (by kernel_rfl) ?hq6x7 ?hy6x7 hHeld ?rest6x7
              case hi6x7 => ((try simp only [List.getElem?_toArray, List.getElem?_cons_succ, List.getElem?_cons_zero]); (try rfl))
              case hq6x7 => exact fun _ _ _ h => h
              case hy6x7 => exact Or.inr ⟨by rfl, rfl⟩
              try simp only [Act.put, List.setIfInBounds_toArray, List.set_cons_zero, List.set_cons_succ]
              refine wpAnyH_take (i := 7) (oi := ?oi7x8) (v := undef) ?hi7x8 (by kernel_rfl) (by kernel_rfl) (by kernel_rfl) ?hq7x8 ?hy7x8 hHeld ?rest7x8
              case hi7x8 => ((try simp only [List.getElem?_toArray, List.getElem?_cons_succ, List.getElem?_cons_zero]); (try rfl))
              case hq7x8 => exact fun _ _ _ h => h
              case hy7x8 => exact Or.inr ⟨by rfl, rfl⟩
              try simp only [Act.put, List.setIfInBounds_toArray, List.set_cons_zero, List.set_cons_succ]
              refine wpAnyH_take (i := 8) (oi := ?oi8x9) (v := undef) ?hi8x9 (by kernel_rfl) (by kernel_rfl) (by kernel_rfl) ?hq8x9 ?hy8x9 hHeld ?rest8x9
              case hi8x9 => ((try simp only [List.getElem?_toArray, List.getElem?_cons_succ, List.getElem?_cons_zero]); (try rfl))
              case hq8x9 => exact fun _ _ _ h => h
              case hy8x9 => exact Or.inr ⟨by rfl, rfl⟩
              try simp only [Act.put, List.setIfInBounds_toArray, List.set_cons_zero, List.set_cons_succ]
              refine wpAnyH_take (i := 9) (oi := ?oi9x10) (v := undef) ?hi9x10 (by kernel_rfl) (by kernel_rfl) (by kernel_rfl) ?hq9x10 ?hy9x10 hHeld ?rest9x10
              case hi9x10 => ((try simp only [List.getElem?_toArray, List.getElem?_cons_succ, List.getElem?_cons_zero]); (try rfl))
              case hq9x10 => exact fun _ _ _ h => h
              case hy9x10 => exact Or.inr ⟨by rfl, rfl⟩
              try simp only [Act.put, List.setIfInBounds_toArray, List.set_cons_zero, List.set_cons_succ]
              refine wpAnyH_take (i := 10) (oi := ?oi10x11) (v := undef) ?hi10x11 (by kernel_rfl) (by kernel_rfl) (by kernel_rfl) ?hq10x11 ?hy10x11 hHeld ?rest10x11
              case hi10x11 => ((try simp only [List.getElem?_toArray, List.getElem?_cons_succ, List.getElem?_cons_zero]); (try rfl))
              case hq10x11 => exact fun _ _ _ h => h
              case hy10x11 => exact Or.inr ⟨by rfl, rfl⟩
              try simp only [Act.put, List.setIfInBounds_toArray, List.set_cons_zero, List.set_cons_succ]
              refine wpAnyH_take (i := 11) (oi := ?oi11x12) (v := undef) ?hi11x12 (by kernel_rfl) (by kernel_rfl) (by kernel_rfl) ?hq11x12 ?hy11x12 hHeld ?rest11x12
              case hi11x12 => ((try simp only [List.getElem?_toArray, List.getElem?_cons_succ, List.getElem?_cons_zero]); (try rfl))
              case hq11x12 => exact fun _ _ _ h => h
              case hy11x12 => exact Or.inr ⟨by rfl, rfl⟩
              try simp only [Act.put, List.setIfInBounds_toArray, List.set_cons_zero, List.set_cons_succ]
              refine wpAnyH_take (i := 12) (oi := ?oi12x13) (v := undef) ?hi12x13 (by kernel_rfl) (by kernel_rfl) (by kernel_rfl) ?hq12x13 ?hy12x13 hHeld ?rest12x13
              case hi12x13 => ((try simp only [List.getElem?_toArray, List.getElem?_cons_succ, List.getElem?_cons_zero]); (try rfl))
              case hq12x13 => exact fun _ _ _ h => h
              case hy12x13 => exact Or.inr ⟨by rfl, rfl⟩
              try simp only [Act.put, List.setIfInBounds_toArray, List.set_cons_zero, List.set_cons_succ]
              refine wpAnyH_take (i := 13) (oi := ?oi13x14) (v := ?v13x14) ?hi13x14 (by kernel_rfl) (by kernel_rfl) (by kernel_rfl) ?hq13x14 ?hy13x14 hHeld ?rest13x14
              case hi13x14 => ((try simp only [List.getElem?_toArray, List.getElem?_cons_succ, List.getElem?_cons_zero]); (try rfl))
              case hq13x14 => exact fun _ _ _ h => h
              case hy13x14 => exact Or.inl ⟨by rfl, by intro w hSw; clear hSw; go_simp; try with_reducible rfl⟩
              try simp only [Act.put, List.setIfInBounds_toArray, List.set_cons_zero, List.set_cons_succ]
              refine wpAnyH_take (i := 14) (oi := ?oi14x15) (v := ?v14x15) ?hi14x15 (by kernel_rfl) (by kernel_rfl) (by kernel_rfl) ?hq14x15 ?hy14x15 hHeld ?rest14x15
              case hi14x15 => ((try simp only [List.getElem?_toArray, List.getElem?_cons_succ, List.getElem?_cons_zero]); (try rfl))
              case hq14x15 => exact fun _ _ _ h => h
              case hy14x15 => exact Or.inl ⟨by rfl, by intro w hSw; clear hSw; go_simp; try with_reducible rfl⟩
              try simp only [Act.put, List.setIfInBounds_toArray, List.set_cons_zero, List.set_cons_succ]
              refine wpAnyH_take (i := 15) (oi := ?oi15x16) (v := undef) ?hi15x16 (by kernel_rfl) (by kernel_rfl) (by kernel_rfl) ?hq15x16 ?hy15x16 hHeld ?rest15x16
              case hi15x16 => ((try simp only [List.getElem?_toArray, List.getElem?_cons_succ, List.getElem?_cons_zero]); (try rfl))
              case hq15x16 => exact fun _ _ _ h => h
              case hy15x16 => exact Or.inr ⟨by rfl, rfl⟩
              try simp only [Act.put, List.setIfInBounds_toArray, List.set_cons_zero, List.set_cons_succ]
              refine wpAnyH_take (i := 16) (oi := ?oi16x17) (v := undef) ?hi16x17 (by kernel_rfl) (by kernel_rfl) (by kernel_rfl) ?hq16x17 ?hy16x17 hHeld ?rest16x17
              case hi16x17 => ((try simp only [List.getElem?_toArray, List.getElem?_cons_succ, List.getElem?_cons_zero]); (try rfl))
              case hq16x17 => exact fun _ _ _ h => h
              case hy16x17 => exact Or.inr ⟨by rfl, rfl⟩
              try simp only [Act.put, List.setIfInBounds_toArray, List.set_cons_zero, List.set_cons_succ]
              refine wpAnyH_take (i := 17) (oi := ?oi17x18) (v := undef) ?hi17x18 (by kernel_rfl) (by kernel_rfl) (by kernel_rfl) ?hq17x18 ?hy17x18 hHeld ?rest17x18
              case hi17x18 => ((try simp only [List.getElem?_toArray, List.getElem?_cons_succ, List.getElem?_cons_zero]); (try rfl))
              case hq17x18 => exact fun _ _ _ h => h
              case hy17x18 => exact Or.inr ⟨by rfl, rfl⟩
              try simp only [Act.put, List.setIfInBounds_toArray, List.set_cons_zero, List.set_cons_succ]
              refine wpAnyH_take (i := 18) (oi := ?oi18x19) (v := undef) ?hi18x19 (by kernel_rfl) (by kernel_rfl) (by kernel_rfl) ?hq18x19 ?hy18x19 hHeld ?rest18x19
              case hi18x19 => ((try simp only [List.getElem?_toArray, List.getElem?_cons_succ, List.getElem?_cons_zero]); (try rfl))
              case hq18x19 => exact fun _ _ _ h => h
              case hy18x19 => exact Or.inr ⟨by rfl, rfl⟩
              try simp only [Act.put, List.setIfInBounds_toArray, List.set_cons_zero, List.set_cons_succ]
              refine wpAnyH_take (i := 19) (oi := ?oi19x20) (v := undef) ?hi19x20 (by kernel_rfl) (by kernel_rfl) (by kernel_rfl) ?hq19x20 ?hy19x20 hHeld ?rest19x20
              case hi19x20 => ((try simp only [List.getElem?_toArray, List.getElem?_cons_succ, List.getElem?_cons_zero]); (try rfl))
              case hq19x20 => exact fun _ _ _ h => h
              case hy19x20 => exact Or.inr ⟨by rfl, rfl⟩
              try simp only [Act.put, List.setIfInBounds_toArray, List.set_cons_zero, List.set_cons_succ]
              refine wpAnyH_take (i := 20) (oi := ?oi20x21) (v := undef) ?hi20x21 (by kernel_rfl) (by kernel_rfl) (by kernel_rfl) ?hq20x21 ?hy20x21 hHeld ?rest20x21
              case hi20x21 => ((try simp only [List.getElem?_toArray, List.getElem?_cons_succ, List.getElem?_cons_zero]); (try rfl))
              case hq20x21 => exact fun _ _ _ h => h
              case hy20x21 => exact Or.inr ⟨by rfl, rfl⟩
              try simp only [Act.put, List.setIfInBounds_toArray, List.set_cons_zero, List.set_cons_succ]
              refine wpAnyH_take (i := 21) (oi := ?oi21x22) (v := undef) ?hi21x22 (by kernel_rfl) (by kernel_rfl) (by kernel_rfl) ?hq21x22 ?hy21x22 hHeld ?rest21x22
              case hi21x22 => ((try simp only [List.getElem?_toArray, List.getElem?_cons_succ, List.getElem?_cons_zero]); (try rfl))
              case hq21x22 => exact fun _ _ _ h => h
              case hy21x22 => exact Or.inr ⟨by rfl, rfl⟩
              try simp only [Act.put, List.setIfInBounds_toArray, List.set_cons_zero, List.set_cons_succ]
              refine wpAnyH_take (i := 22) (oi := ?oi22x23) (v := undef) ?hi22x23 (by kernel_rfl) (by kernel_rfl) (by kernel_rfl) ?hq22x23 ?hy22x23 hHeld ?rest22x23
              case hi22x23 => ((try simp only [List.getElem?_toArray, List.getElem?_cons_succ, List.getElem?_cons_zero]); (try rfl))
              case hq22x23 => exact fun _ _ _ h => h
              case hy22x23 => exact Or.inr ⟨by rfl, rfl⟩
              try simp only [Act.put, List.setIfInBounds_toArray, List.set_cons_zero, List.set_cons_succ]
              refine wpAnyH_take (i := 23) (oi := ?oi23x24) (v := undef) ?hi23x24 (by kernel_rfl) (by kernel_rfl) (by kernel_rfl) ?hq23x24 ?hy23x24 hHeld ?rest23x24
              case hi23x24 => ((try simp only [List.getElem?_toArray, List.getElem?_cons_succ, List.getElem?_cons_zero]); (try rfl))
              case hq23x24 => exact fun _ _ _ h => h
              case hy23x24 => exact Or.inr ⟨by rfl, rfl⟩
              try simp only [Act.put, List.setIfInBounds_toArray, List.set_cons_zero, List.set_cons_succ]
              refine wpAnyH_take (i := 24) (oi := ?oi24x25) (v := undef) ?hi24x25 (by kernel_rfl) (by kernel_rfl) (by kernel_rfl) ?hq24x25 ?hy24x25 hHeld ?rest24x25
              case hi24x25 => ((try simp only [List.getElem?_toArray, List.getElem?_cons_succ, List.getElem?_cons_zero]); (try rfl))
              case hq24x25 => exact fun _ _ _ h => h
              case hy24x25 => exact Or.inr ⟨by rfl, rfl⟩
              try simp only [Act.put, List.setIfInBounds_toArray, List.set_cons_zero, List.set_cons_succ]
              refine wpAnyH_take (i := 25) (oi := ?oi25x26) (v := undef) ?hi25x26 (by kernel_rfl) (by kernel_rfl) (by kernel_rfl) ?hq25x26 ?hy25x26 hHeld ?rest25x26
              case hi25x26 => ((try simp only [List.getElem?_toArray, List.getElem?_cons_succ, List.getElem?_cons_zero]); (try rfl))
              case hq25x26 => exact fun _ _ _ h => h
              case hy25x26 => exact Or.inr ⟨by rfl, rfl⟩
              try simp only [Act.put, List.setIfInBounds_toArray, List.set_cons_zero, List.set_cons_succ]
              refine wpAnyH_take (i := 26) (oi := ?oi26x27) (v := undef) ?hi26x27 (by kernel_rfl) (by kernel_rfl) (by kernel_rfl) ?hq26x27 ?hy26x27 hHeld ?rest26x27
              case hi26x27 => ((try simp only [List.getElem?_toArray, List.getElem?_cons_succ, List.getElem?_cons_zero]); (try rfl))
              case hq26x27 => exact fun _ _ _ h => h
              case hy26x27 => exact Or.inr ⟨by rfl, rfl⟩
              try simp only [Act.put, List.setIfInBounds_toArray, List.set_cons_zero, List.set_cons_succ]
              refine wpAnyH_take (i := 27) (oi := ?oi27x28) (v := undef) ?hi27x28 (by kernel_rfl) (by kernel_rfl) (by kernel_rfl) ?hq27x28 ?hy27x28 hHeld ?rest27x28
              case hi27x28 => ((try simp only [List.getElem?_toArray, List.getElem?_cons_succ, List.getElem?_cons_zero]); (try rfl))
              case hq27x28 => exact fun _ _ _ h => h
              case hy27x28 => exact Or.inr ⟨by rfl, rfl⟩
              try simp only [Act.put, List.setIfInBounds_toArray, List.set_cons_zero, List.set_cons_succ]
              refine wpAnyH_take (i := 28) (oi := ?oi28x29) (v := undef) ?hi28x29 (by kernel_rfl) (by kernel_rfl) (by kernel_rfl) ?hq28x29 ?hy28x29 hHeld ?rest28x29
              case hi28x29 => ((try simp only [List.getElem?_toArray, List.getElem?_cons_succ, List.getElem?_cons_zero]); (try rfl))
              case hq28x29 => exact fun _ _ _ h => h
              case hy28x29 => exact Or.inr ⟨by rfl, rfl⟩
              try simp only [Act.put, List.setIfInBounds_toArray, List.set_cons_zero, List.set_cons_succ]
              refine wpAnyH_take (i := 29) (oi := ?oi29x30) (v := undef) ?hi29x30 (by kernel_rfl) (by kernel_rfl) (by kernel_rfl) ?hq29x30 ?hy29x30 hHeld ?rest29x30
              case hi29x30 => ((try simp only [List.getElem?_toArray, List.getElem?_cons_succ, List.getElem?_cons_zero]); (try rfl))
              case hq29x30 => exact fun _ _ _ h => h
              case hy29x30 => exact Or.inr ⟨by rfl, rfl⟩
              try simp only [Act.put, List.setIfInBounds_toArray, List.set_cons_zero, List.set_cons_succ]
              refine wpAnyH_take (i := 30) (oi := ?oi30x31) (v := undef) ?hi30x31 (by kernel_rfl) (by kernel_rfl) (by kernel_rfl) ?hq30x31 ?hy30x31 hHeld ?rest30x31
              case hi30x31 => ((try simp only [List.getElem?_toArray, List.getElem?_cons_succ, List.getElem?_cons_zero]); (try rfl))
              case hq30x31 => exact fun _ _ _ h => h
              case hy30x31 => exact Or.inr ⟨by rfl, rfl⟩
              try simp only [Act.put, List.setIfInBounds_toArray, List.set_cons_zero, List.set_cons_succ]
              refine wpAnyH_take (i := 31) (oi := ?oi31x32) (v := undef) ?hi31x32 (by kernel_rfl) (by kernel_rfl) (by kernel_rfl) ?hq31x32 ?hy31x32 hHeld ?rest31x32
              case hi31x32 => ((try simp only [List.getElem?_toArray, List.getElem?_cons_succ, List.getElem?_cons_zero]); (try rfl))
              case hq31x32 => exact fun _ _ _ h => h
              case hy31x32 => exact Or.inr ⟨by rfl, rfl⟩
              try simp only [Act.put, List.setIfInBounds_toArray, List.set_cons_zero, List.set_cons_succ]
              refine wpAnyH_take (i := 32) (oi := ?oi32x33) (v := undef) ?hi32x33 (by kernel_rfl) (by kernel_rfl) (by kernel_rfl) ?hq32x33 ?hy32x33 hHeld ?rest32x33
              case hi32x33 => ((try simp only [List.getElem?_toArray, List.getElem?_cons_succ, List.getElem?_cons_zero]); (try rfl))
              case hq32x33 => exact fun _ _ _ h => h
              case hy32x33 => exact Or.inr ⟨by rfl, rfl⟩
              try simp only [Act.put, List.setIfInBounds_toArray, List.set_cons_zero, List.set_cons_succ]
              refine wpAnyH_take (i := 33) (oi := ?oi33x34) (v := undef) ?hi33x34 (by kernel_rfl) (by kernel_rfl) (by kernel_rfl) ?hq33x34 ?hy33x34 hHeld ?rest33x34
              case hi33x34 => ((try simp only [List.getElem?_toArray, List.getElem?_cons_succ, List.getElem?_cons_zero]); (try rfl))
              case hq33x34 => exact fun _ _ _ h => h
              case hy33x34 => exact Or.inr ⟨by rfl, rfl⟩
              try simp only [Act.put, List.setIfInBounds_toArray, List.set_cons_zero, List.set_cons_succ]
              refine wpAnyH_take (i := 34) (oi := ?oi34x35) (v := undef) ?hi34x35 (by kernel_rfl) (by kernel_rfl) (by kernel_rfl) ?hq34x35 ?hy34x35 hHeld ?rest34x35
              case hi34x35 => ((try simp only [List.getElem?_toArray, List.getElem?_cons_succ, List.getElem?_cons_zero]); (try rfl))
              case hq34x35 => exact fun _ _ _ h => h
              case hy34x35 => exact Or.inr ⟨by rfl, rfl⟩
              try simp only [Act.put, List.setIfInBounds_toArray, List.set_cons_zero, List.set_cons_succ]
              refine wpAnyH_take (i := 35) (oi := ?oi35x36) (v := undef) ?hi35x36 (by kernel_rfl) (by kernel_rfl) (by kernel_rfl) ?hq35x36 ?hy35x36 hHeld ?rest35x36
              case hi35x36 => ((try simp only [List.getElem?_toArray, List.getElem?_cons_succ, List.getElem?_cons_zero]); (try rfl))
              case hq35x36 => exact fun _ _ _ h => h
              case hy35x36 => exact Or.inr ⟨by rfl, rfl⟩
              try simp only [Act.put, List.setIfInBounds_toArray, List.set_cons_zero, List.set_cons_succ]
              refine wpAnyH_take (i := 36) (oi := ?oi36x37) (v := undef) ?hi36x37 (by kernel_rfl) (by kernel_rfl) (by kernel_rfl) ?hq36x37 ?hy36x37 hHeld ?rest36x37
              case hi36x37 => ((try simp only [List.getElem?_toArray, List.getElem?_cons_succ, List.getElem?_cons_zero]); (try rfl))
              case hq36x37 => exact fun _ _ _ h => h
              case hy36x37 => exact Or.inr ⟨by rfl, rfl⟩
              try simp only [Act.put, List.setIfInBounds_toArray, List.set_cons_zero, List.set_cons_succ]
              refine wpAnyH_take (i := 37) (oi := ?oi37x38) (v := undef) ?hi37x38 (by kernel_rfl) (by kernel_rfl) (by kernel_rfl) ?hq37x38 ?hy37x38 hHeld ?rest37x38
              case hi37x38 => ((try simp only [List.getElem?_toArray, List.getElem?_cons_succ, List.getElem?_cons_zero]); (try rfl))
              case hq37x38 => exact fun _ _ _ h => h
              case hy37x38 => exact Or.inr ⟨by rfl, rfl⟩
              try simp only [Act.put, List.setIfInBounds_toArray, List.set_cons_zero, List.set_cons_succ]
              refine wpAnyH_take (i := 38) (oi := ?oi38x39) (v := undef) ?hi38x39 (by kernel_rfl) (by kernel_rfl) (by kernel_rfl) ?hq38x39 ?hy38x39 hHeld ?rest38x39
              case hi38x39 => ((try simp only [List.getElem?_toArray, List.getElem?_cons_succ, List.getElem?_cons_zero]); (try rfl))
              case hq38x39 => exact fun _ _ _ h => h
              case hy38x39 => exact Or.inr ⟨by rfl, rfl⟩
              try simp only [Act.put, List.setIfInBounds_toArray, List.set_cons_zero, List.set_cons_succ]
              refine wpAnyH_take (i := 39) (oi := ?oi39x40) (v := undef) ?hi39x40 (by kernel_rfl) (by kernel_rfl) (by kernel_rfl) ?hq39x40 ?hy39x40 hHeld ?rest39x40
              case hi39x40 => ((try simp only [List.getElem?_toArray, List.getElem?_cons_succ, List.getElem?_cons_zero]); (try rfl))
              case hq39x40 => exact fun _ _ _ h => h
              case hy39x40 => exact Or.inr ⟨by rfl, rfl⟩
              try simp only [Act.put, List.setIfInBounds_toArray, List.set_cons_zero, List.set_cons_succ]
              refine wpAnyH_take (i := 40) (oi := ?oi40x41) (v := undef) ?hi40x41 (by kernel_rfl) (by kernel_rfl) (by kernel_rfl) ?hq40x41 ?hy40x41 hHeld ?rest40x41
              case hi40x41 => ((try simp only [List.getElem?_toArray, List.getElem?_cons_succ, List.getElem?_cons_zero]); (try rfl))
              case hq40x41 => exact fun _ _ _ h => h
              case hy40x41 => exact Or.inr ⟨by rfl, rfl⟩
              try simp only [Act.put, List.setIfInBounds_toArray, List.set_cons_zero, List.set_cons_succ]
              refine wpAnyH_take (i := 41) (oi := ?oi41x42) (v := ?v41x42) ?hi41x42 (by kernel_rfl) (by kernel_rfl) (by kernel_rfl) ?hq41x42 ?hy41x42 hHeld ?rest41x42
              case hi41x42 => ((try simp only [List.getElem?_toArray, List.getElem?_cons_succ, List.getElem?_cons_zero]); (try rfl))
              case hq41x42 => exact fun _ _ _ h => h
              case hy41x42 => exact Or.inl ⟨by rfl, by intro w hSw; clear hSw; go_simp; try with_reducible rfl⟩
              try simp only [Act.put, List.setIfInBounds_toArray, List.set_cons_zero, List.set_cons_succ]
              refine wpAnyH_done (by kernel_rfl) ?_ _
              clear hHeld
              have X2 := Lib.hid X.out.two
              have X3 := Lib.hid X.out.below
              clear X
              go_wp2_with fail
              go_roundw
              case rel => exact ⟨k + 1, by omega, by go_num, DD.out, X2, X3⟩
              case measure => simp [intOf]; omega
            · have n1 : ((k : Int) != (i : Int)) = true := by rw [bne, beq_eq_false_iff_ne.2 (by omega)]; rfl
              by_cases e2 : kyOf p = kyOf q
              · rw [decide_eq_true e2] at TW
                by_cases e3 : betP q p
                · rw [decide_eq_true e3] at BQ
                  have DD := Lib.hid (BEAT.out ⟨e1, e2, Or.inl e3⟩)
                  clear BP BEAT KEEP e1 e2 e3
                  go_upto_region 13 with fail
                  refine wp_region_held_drew (S := fun wx => SR w vk (keptTo l i) vd (dropTo l i) b off i k p q wx) (by kernel_rfl) X.out (fun hHeld => ?_)
                  refine wpAnyH_take (i := 0) (oi := ?oi0x43) (v := ?v0x43) ?hi0x43 (by kernel_rfl) (by kernel_rfl) (by kernel_rfl) ?hq0x43 ?hy0x43 hHeld ?rest0x43
                  case hi0x43 => ((try simp only [List.getElem?_toArray, List.getElem?_cons_succ, List.getElem?_cons_zero]); (try rfl))
                  case hq0x43 => exact fun _ _ _ h => h
                  case hy0x43 => exact Or.inl ⟨by rfl, by intro w hSw; clear hSw; go_simp; try with_reducible rfl⟩
                  try simp only [Act.put, List.setIfInBounds_toArray, List.set_cons_zero, List.set_cons_succ]
                  refine wpAnyH_take (i := 1) (oi := ?oi1x44) (v := ?v1x44) ?hi1x44 (by kernel_rfl) (by kernel_rfl) (by kernel_rfl) ?hq1x44 ?hy1x44 hHeld ?rest1x44
                  case hi1x44 => ((try simp only [List.getElem?_toArray, List.getElem?_cons_succ, List.getElem?_cons_zero]); (try rfl))
                  case hq1x44 => exact fun _ _ _ h => h
                  case hy1x44 => exact Or.inl ⟨by rfl, by intro w hSw; clear hSw; go_simp; try with_reducible rfl⟩
                  try simp only [Act.put, List.setIfInBounds_toArray, List.set_cons_zero, List.set_cons_succ]
                  refine wpAnyH_take (i := 2) (oi := ?oi2x45) (v := ?v2x45) ?hi2x45 (by kernel_rfl) (by kernel_rfl) (by kernel_rfl) ?hq2x45 ?hy2x45 hHeld ?rest2x45
                  case hi2x45 => ((try simp only [List.getElem?_toArray, List.getElem?_cons_succ, List.getElem?_cons_zero]); (try rfl))
                  case hq2x45 => exact fun _ _ _ h => h
                  case hy2x45 => exact Or.inl ⟨by rfl, by intro w hSw; clear hSw; go_simp; try with_reducible rfl⟩
                  try simp only [Act.put, List.setIfInBounds_toArray, List.set_cons_zero, List.set_cons_succ]
                  refine wpAnyH_take (i := 3) (oi := ?oi3x46) (v := ?v3x46) ?hi3x46 (by kernel_rfl) (by kernel_rfl) (by kernel_rfl) ?hq3x46 ?hy3x46 hHeld ?rest3x46
                  case hi3x46 => ((try simp only [List.getElem?_toArray, List.getElem?_cons_succ, List.getElem?_cons_zero]); (try rfl))
                  case hq3x46 => exact fun _ _ _ h => h
                  case hy3x46 => exact Or.inl ⟨by rfl, by intro w hSw; clear hSw; go_simp; try with_reducible rfl⟩
                  try simp only [Act.put, List.setIfInBounds_toArray, List.set_cons_zero, List.set_cons_succ]
                  refine wpAnyH_take (i := 4) (oi := ?oi4x47) (v := ?v4x47) ?hi4x47 (by kernel_rfl) (by kernel_rfl) (by kernel_rfl) ?hq4x47 ?hy4x47 hHeld ?rest4x47
                  case hi4x47 => ((try simp only [List.getElem?_toArray, List.getElem?_cons_succ, List.getElem?_cons_zero]); (try rfl))
                  case hq4x47 => exact fun _ _ _ h => h
                  case hy4x47 => exact Or.inl ⟨by rfl, by intro w hSw; clear hSw; go_simp; try with_reducible rfl⟩
                  try simp only [Act.put, List.setIfInBounds_toArray, List.set_cons_zero, List.set_cons_succ]
                  refine wpAnyH_take (i := 5) (oi := ?oi5x48) (v := ?v5x48) ?hi5x48 (by kernel_rfl) (by kernel_rfl) (by kernel_rfl) ?hq5x48 ?hy5x48 hHeld ?rest5x48
                  case hi5x48 => ((try simp only [List.getElem?_toArray, List.getElem?_cons_succ, List.getElem?_cons_zero]); (try rfl))
                  case hq5x48 => exact fun _ _ _ h => h
                  case hy5x48 => exact Or.inl ⟨by rfl, by intro w hSw; clear hSw; go_simp; try with_reducible rfl⟩
                  try simp only [Act.put, List.setIfInBounds_toArray, List.set_cons_zero, List.set_cons_succ]
                  refine wpAnyH_take (i := 6) (oi := ?oi6x49) (v := ?v6x49) ?hi6x49 (by kernel_rfl) (by kernel_rfl) (by kernel_rfl) ?hq6x49 ?hy6x49 hHeld ?rest6x49
                  case hi6x49 => ((try simp only [List.getElem?_toArray, List.getElem?_cons_succ, List.getElem?_cons_zero]); (try rfl))
                  case hq6x49 => exact fun _ _ _ h => h
                  case hy6x49 => exact Or.inl ⟨by rfl, by intro w hSw; clear hSw; go_simp; try with_reducible rfl⟩
                  try simp only [Act.put, List.setIfInBounds_toArray, List.set_cons_zero, List.set_cons_succ]
                  refine wpAnyH_take (i := 7) (oi := ?oi7x50) (v := ?v7x50) ?hi7x50 (by kernel_rfl) (by kernel_rfl) (by kernel_rfl) ?hq7x50 ?hy7x50 hHeld ?rest7x50
                  case hi7x50 => ((try simp only [List.getElem?_toArray, List.getElem?_cons_succ, List.getElem?_cons_zero]); (try rfl))
                  case hq7x50 => exact fun _ _ _ h => h
                  case hy7x50 =>
                    refine' yieldsIf_load_mid ?_ 33 (.tmp 34) ?_ b (off + i * 8) ?_ (obsC p) _ ?_ Tryz.underlying33 ?_ info8
                    · rfl
                    · rfl
                    · rfl
                    · exact fun _ h => SR.rp h
                    · rfl
                  try simp only [Act.put, List.setIfInBounds_toArray, List.set_cons_zero, List.set_cons_succ]
                  refine wpAnyH_take (i := 8) (oi := ?oi8x51) (v := ?v8x51) ?hi8x51 (by kernel_rfl) (by kernel_rfl) (by kernel_rfl) ?hq8x51 ?hy8x51 hHeld ?rest8x51
                  case hi8x51 => ((try simp only [List.getElem?_toArray, List.getElem?_cons_succ, List.getElem?_cons_zero]); (try rfl))
                  case hq8x51 => exact fun _ _ _ h => h
                  case hy8x51 => exact Or.inl ⟨by rfl, by intro w hSw; clear hSw; go_simp; try with_reducible rfl⟩
                  try simp only [Act.put, List.setIfInBounds_toArray, List.set_cons_zero, List.set_cons_succ]
                  refine wpAnyH_take (i := 9) (oi := ?oi9x52) (v := ?v9x52) ?hi9x52 (by kernel_rfl) (by kernel_rfl) (by kernel_rfl) ?hq9x52 ?hy9x52 hHeld ?rest9x52
                  case hi9x52 => ((try simp only [List.getElem?_toArray, List.getElem?_cons_succ, List.getElem?_cons_zero]); (try rfl))
                  case hq9x52 => exact fun _ _ _ h => h
                  case hy9x52 => exact Or.inl ⟨by rfl, by intro w hSw; clear hSw; go_simp; try with_reducible rfl⟩
                  try simp only [Act.put, List.setIfInBounds_toArray, List.set_cons_zero, List.set_cons_succ]
                  refine wpAnyH_take (i := 10) (oi := ?oi10x53) (v := ?v10x53) ?hi10x53 (by kernel_rfl) (by kernel_rfl) (by kernel_rfl) ?hq10x53 ?hy10x53 hHeld ?rest10x53
                  case hi10x53 => ((try simp only [List.getElem?_toArray, List.getElem?_cons_succ, List.getElem?_cons_zero]); (try rfl))
                  case hq10x53 => exact fun _ _ _ h => h
                  case hy10x53 => exact Or.inl ⟨by rfl, by intro w hSw; clear hSw; go_simp; try with_reducible rfl⟩
                  try simp only [Act.put, List.setIfInBounds_toArray, List.set_cons_zero, List.set_cons_succ]
                  refine wpAnyH_take (i := 11) (oi := ?oi11x54) (v := ?v11x54) ?hi11x54 (by kernel_rfl) (by kernel_rfl) (by kernel_rfl) ?hq11x54 ?hy11x54 hHeld ?rest11x54
                  case hi11x54 => ((try simp only [List.getElem?_toArray, List.getElem?_cons_succ, List.getElem?_cons_zero]); (try rfl))
                  case hq11x54 => exact fun _ _ _ h => h
                  case hy11x54 =>
                    refine' yieldsIf_load_mid ?_ 33 (.tmp 38) ?_ b (off + k * 8) ?_ (obsC q) _ ?_ Tryz.underlying33 ?_ info8
                    · rfl
                    · rfl
                    · rfl
                    · exact fun _ h => SR.rq h
                    · rfl
                  try simp only [Act.put, List.setIfInBounds_toArray, List.set_cons_zero, List.set_cons_succ]
                  refine wpAnyH_ready (rs := [12]) (by kernel_rfl) (by simp) ?_
                  refine AllReadyH.cons rfl (fun K' hK => ?_) AllReadyH.nil
                  clear hHeld
                  go_simp
                  refine (TW.out _).mono ?_
                  rintro e wx ⟨rfl, hb⟩
                  replace X := Lib.hid (X.out.call hb)
                  clear hb TW
                  refine hK.out _ _ X.out (fun hHeld => ?_)
                  clear hK
                  try simp only [Act.put, List.setIfInBounds_toArray, List.set_cons_zero, List.set_cons_succ]
                  refine wpAnyH_take (i := 13) (oi := ?oi13x55) (v := ?v13x55) ?hi13x55 (by kernel_rfl) (by kernel_rfl) (by kernel_rfl) ?hq13x55 ?hy13x55 hHeld ?rest13x55
                  case hi13x55 => ((try simp only [List.getElem?_toArray, List.getElem?_cons_succ, List.getElem?_cons_zero]); (try rfl))
                  case hq13x55 => exact fun _ _ _ h => h
                  case hy13x55 => exact Or.inl ⟨by rfl, by intro w hSw; clear hSw; go_simp; try with_reducible rfl⟩
                  try simp only [Act.put, List.setIfInBounds_toArray, List.set_cons_zero, List.set_cons_succ]
                  refine wpAnyH_take (i := 14) (oi := ?oi14x56) (v := ?v14x56) ?hi14x56 (by kernel_rfl) (by kernel_rfl) (by kernel_rfl) ?hq14x56 ?hy14x56 hHeld ?rest14x56
                  case hi14x56 => ((try simp only [List.getElem?_toArray, List.getElem?_cons_succ, List.getElem?_cons_zero]); (try rfl))
                  case hq14x56 => exact fun _ _ _ h => h
                  case hy14x56 => exact Or.inl ⟨by rfl, by intro w hSw; clear hSw; go_simp; try with_reducible rfl⟩
                  try simp only [Act.put, List.setIfInBounds_toArray, List.set_cons_zero, List.set_cons_succ]
                  refine wpAnyH_take (i := 15) (oi := ?oi15x57) (v := ?v15x57) ?hi15x57 (by kernel_rfl) (by kernel_rfl) (by kernel_rfl) ?hq15x57 ?hy15x57 hHeld ?rest15x57
                  case hi15x57 => ((try simp only [List.getElem?_toArray, List.getElem?_cons_succ, List.getElem?_cons_zero]); (try rfl))
                  case hq15x57 => exact fun _ _ _ h => h
                  case hy15x57 => exact Or.inl ⟨by rfl, by intro w hSw; clear hSw; go_simp; try with_reducible rfl⟩
                  try simp only [Act.put, List.setIfInBounds_toArray, List.set_cons_zero, List.set_cons_succ]
                  refine wpAnyH_take (i := 16) (oi := ?oi16x58) (v := ?v16x58) ?hi16x58 (by kernel_rfl) (by kernel_rfl) (by kernel_rfl) ?hq16x58 ?hy16x58 hHeld ?rest16x58
                  case hi16x58 => ((try simp only [List.getElem?_toArray, List.getElem?_cons_succ, List.getElem?_cons_zero]); (try rfl))
                  case hq16x58 => exact fun _ _ _ h => h
                  case hy16x58 => exact Or.inl ⟨by rfl, by intro w hSw; clear hSw; go_simp; try with_reducible rfl⟩
                  try simp only [Act.put, List.setIfInBounds_toArray, List.set_cons_zero, List.set_cons_succ]
                  refine wpAnyH_take (i := 17) (oi := ?oi17x59) (v := ?v17x59) ?hi17x59 (by kernel_rfl) (by kernel_rfl) (by kernel_rfl) ?hq17x59 ?hy17x59 hHeld ?rest17x59
                  case hi17x59 => ((try simp only [List.getElem?_toArray, List.getElem?_cons_succ, List.getElem?_cons_zero]); (try rfl))
                  case hq17x59 => exact fun _ _ _ h => h
                  case hy17x59 => exact Or.inl ⟨by rfl, by intro w hSw; clear hSw; go_simp; try with_reducible rfl⟩
                  try simp only [Act.put, List.setIfInBounds_toArray, List.set_cons_zero, List.set_cons_succ]
                  refine wpAnyH_take (i := 18) (oi := ?oi18x60) (v := ?v18x60) ?hi18x60 (by kernel_rfl) (by kernel_rfl) (by kernel_rfl) ?hq18x60 ?hy18x60 hHeld ?rest18x60
                  case hi18x60 => ((try simp only [List.getElem?_toArray, List.getElem?_cons_succ, List.getElem?_cons_zero]); (try rfl))
                  case hq18x60 => exact fun _ _ _ h => h
                  case hy18x60 =>
                    refine' yieldsIf_load_mid ?_ 33 (.tmp 45) ?_ b (off + k * 8) ?_ (obsC q) _ ?_ Tryz.underlying33 ?_ info8
                    · rfl
                    · rfl
                    · rfl
                    · exact fun _ h => SR.rq h
                    · rfl
                  try simp only [Act.put, List.setIfInBounds_toArray, List.set_cons_zero, List.set_cons_succ]
                  refine wpAnyH_take (i := 19) (oi := ?oi19x61) (v := ?v19x61) ?hi19x61 (by kernel_rfl) (by kernel_rfl) (by kernel_rfl) ?hq19x61 ?hy19x61 hHeld ?rest19x61
                  case hi19x61 => ((try simp only [List.getElem?_toArray, List.getElem?_cons_succ, List.getElem?_cons_zero]); (try rfl))
                  case hq19x61 => exact fun _ _ _ h => h
                  case hy19x61 => exact Or.inl ⟨by rfl, by intro w hSw; clear hSw; go_simp; try with_reducible rfl⟩
                  try simp only [Act.put, List.setIfInBounds_toArray, List.set_cons_zero, List.set_cons_succ]
                  refine wpAnyH_take (i := 20) (oi := ?oi20x62) (v := ?v20x62) ?hi20x62 (by kernel_rfl) (by kernel_rfl) (by kernel_rfl) ?hq20x62 ?hy20x62 hHeld ?rest20x62
                  case hi20x62 => ((try simp only [List.getElem?_toArray, List.getElem?_cons_succ, List.getElem?_cons_zero]); (try rfl))
                  case hq20x62 => exact fun _ _ _ h => h
                  case hy20x62 => exact Or.inl ⟨by rfl, by intro w hSw; clear hSw; go_simp; try with_reducible rfl⟩
                  try simp only [Act.put, List.setIfInBounds_toArray, List.set_cons_zero, List.set_cons_succ]
                  refine wpAnyH_take (i := 21) (oi := ?oi21x63) (v := ?v21x63) ?hi21x63 (by kernel_rfl) (by kernel_rfl) (by kernel_rfl) ?hq21x63 ?hy21x63 hHeld ?rest21x63
                  case hi21x63 => ((try simp only [List.getElem?_toArray, List.getElem?_cons_succ, List.getElem?_cons_zero]); (try rfl))
                  case hq21x63 => exact fun _ _ _ h => h
                  case hy21x63 => exact Or.inl ⟨by rfl, by intro w hSw; clear hSw; go_simp; try with_reducible rfl⟩
                  try simp only [Act.put, List.setIfInBounds_toArray, List.set_cons_zero, List.set_cons_succ]
                  refine wpAnyH_take (i := 22) (oi := ?oi22x64) (v := ?v22x64) ?hi22x64 (by kernel_rfl) (by kernel_rfl) (by kernel_rfl) ?hq22x64 ?hy22x64 hHeld ?rest22x64
                  case hi22x64 => ((try simp only [List.getElem?_toArray, List.getElem?_cons_succ, List.getElem?_cons_zero]); (try rfl))
                  case hq22x64 => exact fun _ _ _ h => h
                  case hy22x64 =>
                    refine' yieldsIf_load_mid ?_ 33 (.tmp 49) ?_ b (off + i * 8) ?_ (obsC p) _ ?_ Tryz.underlying33 ?_ info8
                    · rfl
                    · rfl
                    · rfl
                    · exact fun _ h => SR.rp h
                    · rfl
                  try simp only [Act.put, List.setIfInBounds_toArray, List.set_cons_zero, List.set_cons_succ]
                  refine wpAnyH_ready (rs := [23]) (by kernel_rfl) (by simp) ?_
                  refine AllReadyH.cons rfl (fun K' hK => ?_) AllReadyH.nil
                  clear hHeld
                  go_simp
                  refine (BQ.out _).mono ?_
                  rintro e wx ⟨rfl, hb⟩
                  replace X := Lib.hid (X.out.call hb)
                  clear hb BQ
                  refine hK.out _ _ X.out (fun hHeld => ?_)
                  clear hK
                  try simp only [Act.put, List.setIfInBounds_toArray, List.set_cons_zero, List.set_cons_succ]
                  refine wpAnyH_take (i := 24) (oi := ?oi24x65) (v := ?v24x65) ?hi24x65 (by kernel_rfl) (by kernel_rfl) (by kernel_rfl) ?hq24x65 ?hy24x65 hHeld ?rest24x65
                  case hi24x65 => ((try simp only [List.getElem?_toArray, List.getElem?_cons_succ, List.getElem?_cons_zero]); (try rfl))
                  case hq24x65 => exact fun _ _ _ h => h
                  case hy24x65 => exact Or.inl ⟨by rfl, by intro w hSw; clear hSw; go_simp; try with_reducible rfl⟩
                  try simp only [Act.put, List.setIfInBounds_toArray, List.set_cons_zero, List.set_cons_succ]
                  refine wpAnyH_take (i := 25) (oi := ?oi25x66) (v := undef) ?hi25x66 (by kernel_rfl) (by kernel_rfl) (by kernel_rfl) ?hq25x66 ?hy25x66 hHeld ?rest25x66
                  case hi25x66 => ((try simp only [List.getElem?_toArray, List.getElem?_cons_succ, List.getElem?_cons_zero]); (try rfl))
                  case hq25x66 => exact fun _ _ _ h => h
                  case hy25x66 => exact Or.inr ⟨by rfl, rfl⟩
                  try simp only [Act.put, List.setIfInBounds_toArray, List.set_cons_zero, List.set_cons_succ]
                  refine wpAnyH_take (i := 26) (oi := ?oi26x67) (v := undef) ?hi26x67 (by kernel_rfl) (by kernel_rfl) (by kernel_rfl) ?hq26x67 ?hy26x67 hHeld ?rest26x67
                  case hi26x67 => ((try simp only [List.getElem?_toArray, List.getElem?_cons_succ, List.getElem?_cons_zero]); (try rfl))
                  case hq26x67 => exact fun _ _ _ h => h
                  case hy26x67 => exact Or.inr ⟨by rfl, rfl⟩
                  try simp only [Act.put, List.setIfInBounds_toArray, List.set_cons_zero, List.set_cons_succ]
                  refine wpAnyH_take (i := 27) (oi := ?oi27x68) (v := undef) ?hi27x68 (by kernel_rfl) (by kernel_rfl) (by kernel_rfl) ?hq27x68 ?hy27x68 hHeld ?rest27x68
                  case hi27x68 => ((try simp only [List.getElem?_toArray, List.getElem?_cons_succ, List.getElem?_cons_zero]); (try rfl))
                  case hq27x68 => exact fun _ _ _ h => h
                  case hy27x68 => exact Or.inr ⟨by rfl, rfl⟩
                  try simp only [Act.put, List.setIfInBounds_toArray, List.set_cons_zero, List.set_cons_succ]
                  refine wpAnyH_take (i := 28) (oi := ?oi28x69) (v := undef) ?hi28x69 (by kernel_rfl) (by kernel_rfl) (by kernel_rfl) ?hq28x69 ?hy28x69 hHeld ?rest28x69
                  case hi28x69 => ((try simp only [List.getElem?_toArray, List.getElem?_cons_succ, List.getElem?_cons_zero]); (try rfl))
                  case hq28x69 => exact fun _ _ _ h => h
                  case hy28x69 => exact Or.inr ⟨by rfl, rfl⟩
                  try simp only [Act.put, List.setIfInBounds_toArray, List.set_cons_zero, List.set_cons_succ]
                  refine wpAnyH_take (i := 29) (oi := ?oi29x70) (v := undef) ?hi29x70 (by kernel_rfl) (by kernel_rfl) (by kernel_rfl) ?hq29x70 ?hy29x70 hHeld ?rest29x70
                  case hi29x70 => ((try simp only [List.getElem?_toArray, List.getElem?_cons_succ, List.getElem?_cons_zero]); (try rfl))
                  case hq29x70 => exact fun _ _ _ h => h
                  case hy29x70 => exact Or.inr ⟨by rfl, rfl⟩
                  try simp only [Act.put, List.setIfInBounds_toArray, List.set_cons_zero, List.set_cons_succ]
                  refine wpAnyH_take (i := 30) (oi := ?oi30x71) (v := undef) ?hi30x71 (by kernel_rfl) (by kernel_rfl) (by kernel_rfl) ?hq30x71 ?hy30x71 hHeld ?rest30x71
                  case hi30x71 => ((try simp only [List.getElem?_toArray, List.getElem?_cons_succ, List.getElem?_cons_zero]); (try rfl))
                  case hq30x71 => exact fun _ _ _ h => h
                  case hy30x71 => exact Or.inr ⟨by rfl, rfl⟩
                  try simp only [Act.put, List.setIfInBounds_toArray, List.set_cons_zero, List.set_cons_succ]
                  refine wpAnyH_take (i := 31) (oi := ?oi31x72) (v := undef) ?hi31x72 (by kernel_rfl) (by kernel_rfl) (by kernel_rfl) ?hq31x72 ?hy31x72 hHeld ?rest31x72
                  case hi31x72 => ((try simp only [List.getElem?_toArray, List.getElem?_cons_succ, List.getElem?_cons_zero]); (try rfl))
                  case hq31x72 => exact fun _ _ _ h => h
                  case hy31x72 => exact Or.inr ⟨by rfl, rfl⟩
                  try simp only [Act.put, List.setIfInBounds_toArray, List.set_cons_zero, List.set_cons_succ]
                  refine wpAnyH_take (i := 32) (oi := ?oi32x73) (v := undef) ?hi32x73 (by kernel_rfl) (by kernel_rfl) (by kernel_rfl) ?hq32x73 ?hy32x73 hHeld ?rest32x73
                  case hi32x73 => ((try simp only [List.getElem?_toArray, List.getElem?_cons_succ, List.getElem?_cons_zero]); (try rfl))
                  case hq32x73 => exact fun _ _ _ h => h
                  case hy32x73 => exact Or.inr ⟨by rfl, rfl⟩
                  try simp only [Act.put, List.setIfInBounds_toArray, List.set_cons_zero, List.set_cons_succ]
                  refine wpAnyH_take (i := 33) (oi := ?oi33x74) (v := undef) ?hi33x74 (by kernel_rfl) (by kernel_rfl) (by kernel_rfl) ?hq33x74 ?hy33x74 hHeld ?rest33x74
                  case hi33x74 => ((try simp only [List.getElem?_toArray, List.getElem?_cons_succ, List.getElem?_cons_zero]); (try rfl))
                  case hq33x74 => exact fun _ _ _ h => h
                  case hy33x74 => exact Or.inr ⟨by rfl, rfl⟩
                  try simp only [Act.put, List.setIfInBounds_toArray, List.set_cons_zero, List.set_cons_succ]
                  refine wpAnyH_take (i := 34) (oi := ?oi34x75) (v := undef) ?hi34x75 (by kernel_rfl) (by kernel_rfl) (by kernel_rfl) ?hq34x75 ?hy34x75 hHeld ?rest34x75
                  case hi34x75 => ((try simp only [List.getElem?_toArray, List.getElem?_cons_succ, List.getElem?_cons_zero]); (try rfl))
                  case hq34x75 => exact fun _ _ _ h => h
                  case hy34x75 => exact Or.inr ⟨by rfl, rfl⟩
                  try simp only [Act.put, List.setIfInBounds_toArray, List.set_cons_zero, List.set_cons_succ]
                  refine wpAnyH_take (i := 35) (oi := ?oi35x76) (v := undef) ?hi35x76 (by kernel_rfl) (by kernel_rfl) (by kernel_rfl) ?hq35x76 ?hy35x76 hHeld ?rest35x76
                  case hi35x76 => ((try simp only [List.getElem?_toArray, List.getElem?_cons_succ, List.getElem?_cons_zero]); (try rfl))
                  case hq35x76 => exact fun _ _ _ h => h
                  case hy35x76 => exact Or.inr ⟨by rfl, rfl⟩
                  try simp only [Act.put, List.setIfInBounds_toArray, List.set_cons_zero, List.set_cons_succ]
                  refine wpAnyH_take (i := 36) (oi := ?oi36x77) (v := undef) ?hi36x77 (by kernel_rfl) (by kernel_rfl) (by kernel_rfl) ?hq36x77 ?hy36x77 hHeld ?rest36x77
                  case hi36x77 => ((try simp only [List.getElem?_toArray, List.getElem?_cons_succ, List.getElem?_cons_zero]); (try rfl))
                  case hq36x77 => exact fun _ _ _ h => h
                  case hy36x77 => exact Or.inr ⟨by rfl, rfl⟩
                  try simp only [Act.put, List.setIfInBounds_toArray, List.set_cons_zero, List.set_cons_succ]
                  refine wpAnyH_take (i := 37) (oi := ?oi37x78) (v := undef) ?hi37x78 (by kernel_rfl) (by kernel_rfl) (by kernel_rfl) ?hq37x78 ?hy37x78 hHeld ?rest37x78
                  case hi37x78 => ((try simp only [List.getElem?_toArray, List.getElem?_cons_succ, List.getElem?_cons_zero]); (try rfl))
                  case hq37x78 => exact fun _ _ _ h => h
                  case hy37x78 => exact Or.inr ⟨by rfl, rfl⟩
                  try simp only [Act.put, List.setIfInBounds_toArray, List.set_cons_zero, List.set_cons_succ]
                  refine wpAnyH_take (i := 38) (oi := ?oi38x79) (v := undef) ?hi38x79 (by kernel_rfl) (by kernel_rfl) (by kernel_rfl) ?hq38x79 ?hy38x79 hHeld ?rest38x79
                  case hi38x79 => ((try simp only [List.getElem?_toArray, List.getElem?_cons_succ, List.getElem?_cons_zero]); (try rfl))
                  case hq38x79 => exact fun _ _ _ h => h
                  case hy38x79 => exact Or.inr ⟨by rfl, rfl⟩
                  try simp only [Act.put, List.setIfInBounds_toArray, List.set_cons_zero, List.set_cons_succ]
                  refine wpAnyH_take (i := 39) (oi := ?oi39x80) (v := undef) ?hi39x80 (by kernel_rfl) (by kernel_rfl) (by kernel_rfl) ?hq39x80 ?hy39x80 hHeld ?rest39x80
                  case hi39x80 => ((try simp only [List.getElem?_toArray, List.getElem?_cons_succ, List.getElem?_cons_zero]); (try rfl))
                  case hq39x80 => exact fun _ _ _ h => h
                  case hy39x80 => exact Or.inr ⟨by rfl, rfl⟩
                  try simp only [Act.put, List.setIfInBounds_toArray, List.set_cons_zero, List.set_cons_succ]
                  refine wpAnyH_take (i := 40) (oi := ?oi40x81) (v := ?v40x81) ?hi40x81 (by kernel_rfl) (by kernel_rfl) (by kernel_rfl) ?hq40x81 ?hy40x81 hHeld ?rest40x81
                  case hi40x81 => ((try simp only [List.getElem?_toArray, List.getElem?_cons_succ, List.getElem?_cons_zero]); (try rfl))
                  case hq40x81 => exact fun _ _ _ h => h
                  case hy40x81 => exact Or.inl ⟨by rfl, by intro w hSw; clear hSw; go_simp; try with_reducible rfl⟩
                  try simp only [Act.put, List.setIfInBounds_toArray, List.set_cons_zero, List.set_cons_succ]
                  refine wpAnyH_take (i := 41) (oi := ?oi41x82) (v := ?v41x82) ?hi41x82 (by kernel_rfl) (by kernel_rfl) (by kernel_rfl) ?hq41x82 ?hy41x82 hHeld ?rest41x82
                  case hi41x82 => ((try simp only [List.getElem?_toArray, List.getElem?_cons_succ, List.getElem?_cons_zero]); (try rfl))
                  case hq41x82 => exact fun _ _ _ h => h
                  case hy41x82 => exact Or.inl ⟨by rfl, by intro w hSw; clear hSw; go_simp; try with_reducible rfl⟩
                  try simp only [Act.put, List.setIfInBounds_toArray, List.set_cons_zero, List.set_cons_succ]
                  refine wpAnyH_done (by kernel_rfl) ?_ _
                  clear hHeld
                  have X2 := Lib.hid X.out.two
                  have X3 := Lib.hid X.out.below
                  clear X
                  go_wp2_with fail
                  go_roundw
                  case rel => exact ⟨k + 1, by omega, by go_num, by rw [DD.out], X2, X3⟩
                  case measure => simp [intOf]; omega
                · rw [decide_eq_false e3] at BQ
                  by_cases e4 : k < i
                  · have n2 : decide ((k : Int) < (i : Int)) = true := decide_eq_true (by omega)
                    have n3 : (k : Int) < (i : Int) := by omega
                    by_cases e5 : betP p q
                    · rw [decide_eq_true e5] at BP
                      have DD := Lib.hid (KEEP.out (fun h => by rcases h.2.2 with h | h; exact e3 h; exact h.2 e5))
                      clear BEAT KEEP e1 e2 e3 e4 e5
                      go_upto_region 13 with fail
                      refine wp_region_held_drew (S := fun wx => SR w vk (keptTo l i) vd (dropTo l i) b off i k p q wx) (by kernel_rfl) X.out (fun hHeld => ?_)
                      refine wpAnyH_take (i := 0) (oi := ?oi0x83) (v := ?v0x83) ?hi0x83 (by kernel_rfl) (by kernel_rfl) (by kernel_rfl) ?hq0x83 ?hy0x83 hHeld ?rest0x83
                      case hi0x83 => ((try simp only [List.getElem?_toArray, List.getElem?_cons_succ, List.getElem?_cons_zero]); (try rfl))
                      case hq0x83 => exact fun _ _ _ h => h
                      case hy0x83 => exact Or.inl ⟨by rfl, by intro w hSw; clear hSw; go_simp; try with_reducible rfl⟩
                      try simp only [Act.put, List.setIfInBounds_toArray, List.set_cons_zero, List.set_cons_succ]
                      refine wpAnyH_take (i := 1) (oi := ?oi1x84) (v := ?v1x84) ?hi1x84 (by kernel_rfl) (by kernel_rfl) (by kernel_rfl) ?hq1x84 ?hy1x84 hHeld ?rest1x84
                      case hi1x84 => ((try simp only [List.getElem?_toArray, List.getElem?_cons_succ, List.getElem?_cons_zero]); (try rfl))
                      case hq1x84 => exact fun _ _ _ h => h
                      case hy1x84 => exact Or.inl ⟨by rfl, by intro w hSw; clear hSw; go_simp; try with_reducible rfl⟩
                      try simp only [Act.put, List.setIfInBounds_toArray, List.set_cons_zero, List.set_cons_succ]
                      refine wpAnyH_take (i := 2) (oi := ?oi2x85) (v := ?v2x85) ?hi2x85 (by kernel_rfl) (by kernel_rfl) (by kernel_rfl) ?hq2x85 ?hy2x85 hHeld ?rest2x85
                      case hi2x85 => ((try simp only [List.getElem?_toArray, List.getElem?_cons_succ, List.getElem?_cons_zero]); (try rfl))
                      case hq2x85 => exact fun _ _ _ h => h
                      case hy2x85 => exact Or.inl ⟨by rfl, by intro w hSw; clear hSw; go_simp; try with_reducible rfl⟩
                      try simp only [Act.put, List.setIfInBounds_toArray, List.set_cons_zero, List.set_cons_succ]
                      refine wpAnyH_take (i := 3) (oi := ?oi3x86) (v := ?v3x86) ?hi3x86 (by kernel_rfl) (by kernel_rfl) (by kernel_rfl) ?hq3x86 ?hy3x86 hHeld ?rest3x86
                      case hi3x86 => ((try simp only [List.getElem?_toArray, List.getElem?_cons_succ, List.getElem?_cons_zero]); (try rfl))
                      case hq3x86 => exact fun _ _ _ h => h
                      case hy3x86 => exact Or.inl ⟨by rfl, by intro w hSw; clear hSw; go_simp; try with_reducible rfl⟩
                      try simp only [Act.put, List.setIfInBounds_toArray, List.set_cons_zero, List.set_cons_succ]
                      refine wpAnyH_take (i := 4) (oi := ?oi4x87) (v := ?v4x87) ?hi4x87 (by kernel_rfl) (by kernel_rfl) (by kernel_rfl) ?hq4x87 ?hy4x87 hHeld ?rest4x87
                      case hi4x87 => ((try simp only [List.getElem?_toArray, List.getElem?_cons_succ, List.getElem?_cons_zero]); (try rfl))
                      case hq4x87 => exact fun _ _ _ h => h
                      case hy4x87 => exact Or.inl ⟨by rfl, by intro w hSw; clear hSw; go_simp; try with_reducible rfl⟩
                      try simp only [Act.put, List.setIfInBounds_toArray, List.set_cons_zero, List.set_cons_succ]
                      refine wpAnyH_take (i := 5) (oi := ?oi5x88) (v := ?v5x88) ?hi5x88 (by kernel_rfl) (by kernel_rfl) (by kernel_rfl) ?hq5x88 ?hy5x88 hHeld ?rest5x88
                      case hi5x88 => ((try simp only [List.getElem?_toArray, List.getElem?_cons_succ, List.getElem?_cons_zero]); (try rfl))
                      case hq5x88 => exact fun _ _ _ h => h
                      case hy5x88 => exact Or.inl ⟨by rfl, by intro w hSw; clear hSw; go_simp; try with_reducible rfl⟩
                      try simp only [Act.put, List.setIfInBounds_toArray, List.set_cons_zero, List.set_cons_succ]
                      refine wpAnyH_take (i := 6) (oi := ?oi6x89) (v := ?v6x89) ?hi6x89 (by kernel_rfl) (by kernel_rfl) (by kernel_rfl) ?hq6x89 ?hy6x89 hHeld ?rest6x89
                      case hi6x89 => ((try simp only [List.getElem?_toArray, List.getElem?_cons_succ, List.getElem?_cons_zero]); (try rfl))
                      case hq6x89 => exact fun _ _ _ h => h
                      case hy6x89 => exact Or.inl ⟨by rfl, by intro w hSw; clear hSw; go_simp; try with_reducible rfl⟩
                      try simp only [Act.put, List.setIfInBounds_toArray, List.set_cons_zero, List.set_cons_succ]
                      refine wpAnyH_take (i := 7) (oi := ?oi7x90) (v := ?v7x90) ?hi7x90 (by kernel_rfl) (by kernel_rfl) (by kernel_rfl) ?hq7x90 ?hy7x90 hHeld ?rest7x90
                      case hi7x90 => ((try simp only [List.getElem?_toArray, List.getElem?_cons_succ, List.getElem?_cons_zero]); (try rfl))
                      case hq7x90 => exact fun _ _ _ h => h
                      case hy7x90 =>
                        refine' yieldsIf_load_mid ?_ 33 (.tmp 34) ?_ b (off + i * 8) ?_ (obsC p) _ ?_ Tryz.underlying33 ?_ info8
                        · rfl
                        · rfl
                        · rfl
                        · exact fun _ h => SR.rp h
                        · rfl
                      try simp only [Act.put, List.setIfInBounds_toArray, List.set_cons_zero, List.set_cons_succ]
                      refine wpAnyH_take (i := 8) (oi := ?oi8x91) (v := ?v8x91) ?hi8x91 (by kernel_rfl) (by kernel_rfl) (by kernel_rfl) ?hq8x91 ?hy8x91 hHeld ?rest8x91
                      case hi8x91 => ((try simp only [List.getElem?_toArray, List.getElem?_cons_succ, List.getElem?_cons_zero]); (try rfl))
                      case hq8x91 => exact fun _ _ _ h => h
                      case hy8x91 => exact Or.inl ⟨by rfl, by intro w hSw; clear hSw; go_simp; try with_reducible rfl⟩
                      try simp only [Act.put, List.setIfInBounds_toArray, List.set_cons_zero, List.set_cons_succ]
                      refine wpAnyH_take (i := 9) (oi := ?oi9x92) (v := ?v9x92) ?hi9x92 (by kernel_rfl) (by kernel_rfl) (by kernel_rfl) ?hq9x92 ?hy9x92 hHeld ?rest9x92
                      case hi9x92 => ((try simp only [List.getElem?_toArray, List.getElem?_cons_succ, List.getElem?_cons_zero]); (try rfl))
                      case hq9x92 => exact fun _ _ _ h => h
                      case hy9x92 => exact Or.inl ⟨by rfl, by intro w hSw; clear hSw; go_simp; try with_reducible rfl⟩
                      try simp only [Act.put, List.setIfInBounds_toArray, List.set_cons_zero, List.set_cons_succ]
                      refine wpAnyH_take (i := 10) (oi := ?oi10x93) (v := ?v10x93) ?hi10x93 (by kernel_rfl) (by kernel_rfl) (by kernel_rfl) ?hq10x93 ?hy10x93 hHeld ?rest10x93
                      case hi10x93 => ((try simp only [List.getElem?_toArray, List.getElem?_cons_succ, List.getElem?_cons_zero]); (try rfl))
                      case hq10x93 => exact fun _ _ _ h => h
                      case hy10x93 => exact Or.inl ⟨by rfl, by intro w hSw; clear hSw; go_simp; try with_reducible rfl⟩
                      try simp only [Act.put, List.setIfInBounds_toArray, List.set_cons_zero, List.set_cons_succ]
                      refine wpAnyH_take (i := 11) (oi := ?oi11x94) (v := ?v11x94) ?hi11x94 (by kernel_rfl) (by kernel_rfl) (by kernel_rfl) ?hq11x94 ?hy11x94 hHeld ?rest11x94
                      case hi11x94 => ((try simp only [List.getElem?_toArray, List.getElem?_cons_succ, List.getElem?_cons_zero]); (try rfl))
                      case hq11x94 => exact fun _ _ _ h => h
                      case hy11x94 =>
                        refine' yieldsIf_load_mid ?_ 33 (.tmp 38) ?_ b (off + k * 8) ?_ (obsC q) _ ?_ Tryz.underlying33 ?_ info8
                        · rfl
                        · rfl
                        · rfl
                        · exact fun _ h => SR.rq h
                        · rfl
                      try simp only [Act.put, List.setIfInBounds_toArray, List.set_cons_zero, List.set_cons_succ]
                      refine wpAnyH_ready (rs := [12]) (by kernel_rfl) (by simp) ?_
                      refine AllReadyH.cons rfl (fun K' hK => ?_) AllReadyH.nil
                      clear hHeld
                      go_simp
                      refine (TW.out _).mono ?_
                      rintro e wx ⟨rfl, hb⟩
                      replace X := Lib.hid (X.out.call hb)
                      clear hb TW
                      refine hK.out _ _ X.out (fun hHeld => ?_)
                      clear hK
                      try simp only [Act.put, List.setIfInBounds_toArray, List.set_cons_zero, List.set_cons_succ]
                      refine wpAnyH_take (i := 13) (oi := ?oi13x95) (v := ?v13x95) ?hi13x95 (by kernel_rfl) (by kernel_rfl) (by kernel_rfl) ?hq13x95 ?hy13x95 hHeld ?rest13x95
                      case hi13x95 => ((try simp only [List.getElem?_toArray, List.getElem?_cons_succ, List.getElem?_cons_zero]); (try rfl))
                      case hq13x95 => exact fun _ _ _ h => h
                      case hy13x95 => exact Or.inl ⟨by rfl, by intro w hSw; clear hSw; go_simp; try with_reducible rfl⟩
                      try simp only [Act.put, List.setIfInBounds_toArray, List.set_cons_zero, List.set_cons_succ]
                      refine wpAnyH_take (i := 14) (oi := ?oi14x96) (v := ?v14x96) ?hi14x96 (by kernel_rfl) (by kernel_rfl) (by kernel_rfl) ?hq14x96 ?hy14x96 hHeld ?rest14x96
                      case hi14x96 => ((try simp only [List.getElem?_toArray, List.getElem?_cons_succ, List.getElem?_cons_zero]); (try rfl))
                      case hq14x96 => exact fun _ _ _ h => h
                      case hy14x96 => exact Or.inl ⟨by rfl, by intro w hSw; clear hSw; go_simp; try with_reducible rfl⟩
                      try simp only [Act.put, List.setIfInBounds_toArray, List.set_cons_zero, List.set_cons_succ]
                      refine wpAnyH_take (i := 15) (oi := ?oi15x97) (v := ?v15x97) ?hi15x97 (by kernel_rfl) (by kernel_rfl) (by kernel_rfl) ?hq15x97 ?hy15x97 hHeld ?rest15x97
                      case hi15x97 => ((try simp only [List.getElem?_toArray, List.getElem?_cons_succ, List.getElem?_cons_zero]); (try rfl))
                      case hq15x97 => exact fun _ _ _ h => h
                      case hy15x97 => exact Or.inl ⟨by rfl, by intro w hSw; clear hSw; go_simp; try with_reducible rfl⟩
                      try simp only [Act.put, List.setIfInBounds_toArray, List.set_cons_zero, List.set_cons_succ]
                      refine wpAnyH_take (i := 16) (oi := ?oi16x98) (v := ?v16x98) ?hi16x98 (by kernel_rfl) (by kernel_rfl) (by kernel_rfl) ?hq16x98 ?hy16x98 hHeld ?rest16x98
                      case hi16x98 => ((try simp only [List.getElem?_toArray, List.getElem?_cons_succ, List.getElem?_cons_zero]); (try rfl))
                      case hq16x98 => exact fun _ _ _ h => h
                      case hy16x98 => exact Or.inl ⟨by rfl, by intro w hSw; clear hSw; go_simp; try with_reducible rfl⟩
                      try simp only [Act.put, List.setIfInBounds_toArray, List.set_cons_zero, List.set_cons_succ]
                      refine wpAnyH_take (i := 17) (oi := ?oi17x99) (v := ?v17x99) ?hi17x99 (by kernel_rfl) (by kernel_rfl) (by kernel_rfl) ?hq17x99 ?hy17x99 hHeld ?rest17x99
                      case hi17x99 => ((try simp only [List.getElem?_toArray, List.getElem?_cons_succ, List.getElem?_cons_zero]); (try rfl))
                      case hq17x99 => exact fun _ _ _ h => h
                      case hy17x99 => exact Or.inl ⟨by rfl, by intro w hSw; clear hSw; go_simp; try with_reducible rfl⟩
                      try simp only [Act.put, List.setIfInBounds_toArray, List.set_cons_zero, List.set_cons_succ]
                      refine wpAnyH_take (i := 18) (oi := ?oi18x100) (v := ?v18x100) ?hi18x100 (by kernel_rfl) (by kernel_rfl) (by kernel_rfl) ?hq18x100 ?hy18x100 hHeld ?rest18x100
                      case hi18x100 => ((try simp only [List.getElem?_toArray, List.getElem?_cons_succ, List.getElem?_cons_zero]); (try rfl))
                      case hq18x100 => exact fun _ _ _ h => h
                      case hy18x100 =>
                        refine' yieldsIf_load_mid ?_ 33 (.tmp 45) ?_ b (off + k * 8) ?_ (obsC q) _ ?_ Tryz.underlying33 ?_ info8
                        · rfl
                        · rfl
                        · rfl
                        · exact fun _ h => SR.rq h
                        · rfl
                      try simp only [Act.put, List.setIfInBounds_toArray, List.set_cons_zero, List.set_cons_succ]
                      refine wpAnyH_take (i := 19) (oi := ?oi19x101) (v := ?v19x101) ?hi19x101 (by kernel_rfl) (by kernel_rfl) (by kernel_rfl) ?hq19x101 ?hy19x101 hHeld ?rest19x101
                      case hi19x101 => ((try simp only [List.getElem?_toArray, List.getElem?_cons_succ, List.getElem?_cons_zero]); (try rfl))
                      case hq19x101 => exact fun _ _ _ h => h
                      case hy19x101 => exact Or.inl ⟨by rfl, by intro w hSw; clear hSw; go_simp; try with_reducible rfl⟩
                      try simp only [Act.put, List.setIfInBounds_toArray, List.set_cons_zero, List.set_cons_succ]
                      refine wpAnyH_take (i := 20) (oi := ?oi20x102) (v := ?v20x102) ?hi20x102 (by kernel_rfl) (by kernel_rfl) (by kernel_rfl) ?hq20x102 ?hy20x102 hHeld ?rest20x102
                      case hi20x102 => ((try simp only [List.getElem?_toArray, List.getElem?_cons_succ, List.getElem?_cons_zero]); (try rfl))
                      case hq20x102 => exact fun _ _ _ h => h
                      case hy20x102 => exact Or.inl ⟨by rfl, by intro w hSw; clear hSw; go_simp; try with_reducible rfl⟩
                      try simp only [Act.put, List.setIfInBounds_toArray, List.set_cons_zero, List.set_cons_succ]
                      refine wpAnyH_take (i := 21) (oi := ?oi21x103) (v := ?v21x103) ?hi21x103 (by kernel_rfl) (by kernel_rfl) (by kernel_rfl) ?hq21x103 ?hy21x103 hHeld ?rest21x103
                      case hi21x103 => ((try simp only [List.getElem?_toArray, List.getElem?_cons_succ, List.getElem?_cons_zero]); (try rfl))
                      case hq21x103 => exact fun _ _ _ h => h
                      case hy21x103 => exact Or.inl ⟨by rfl, by intro w hSw; clear hSw; go_simp; try with_reducible rfl⟩
                      try simp only [Act.put, List.setIfInBounds_toArray, List.set_cons_zero, List.set_cons_succ]
                      refine wpAnyH_take (i := 22) (oi := ?oi22x104) (v := ?v22x104) ?hi22x104 (by kernel_rfl) (by kernel_rfl) (by kernel_rfl) ?hq22x104 ?hy22x104 hHeld ?rest22x104
                      case hi22x104 => ((try simp only [List.getElem?_toArray, List.getElem?_cons_succ, List.getElem?_cons_zero]); (try rfl))
                      case hq22x104 => exact fun _ _ _ h => h
                      case hy22x104 =>
                        refine' yieldsIf_load_mid ?_ 33 (.tmp 49) ?_ b (off + i * 8) ?_ (obsC p) _ ?_ Tryz.underlying33 ?_ info8
                        · rfl
                        · rfl
                        · rfl
                        · exact fun _ h => SR.rp h
                        · rfl
                      try simp only [Act.put, List.setIfInBounds_toArray, List.set_cons_zero, List.set_cons_succ]
                      refine wpAnyH_ready (rs := [23]) (by kernel_rfl) (by simp) ?_
                      refine AllReadyH.cons rfl (fun K' hK => ?_) AllReadyH.nil
                      clear hHeld
                      go_simp
                      refine (BQ.out _).mono ?_
                      rintro e wx ⟨rfl, hb⟩
                      replace X := Lib.hid (X.out.call hb)
                      clear hb BQ
                      refine hK.out _ _ X.out (fun hHeld => ?_)
                      clear hK
                      try simp only [Act.put, List.setIfInBounds_toArray, List.set_cons_zero, List.set_cons_succ]
                      refine wpAnyH_take (i := 24) (oi := ?oi24x105) (v := ?v24x105) ?hi24x105 (by kernel_rfl) (by kernel_rfl) (by kernel_rfl) ?hq24x105 ?hy24x105 hHeld ?rest24x105
                      case hi24x105 => ((try simp only [List.getElem?_toArray, List.getElem?_cons_succ, List.getElem?_cons_zero]); (try rfl))
                      case hq24x105 => exact fun _ _ _ h => h
                      case hy24x105 => exact Or.inl ⟨by rfl, by intro w hSw; clear hSw; go_simp; try with_reducible rfl⟩
                      try simp only [Act.put, List.setIfInBounds_toArray, List.set_cons_zero, List.set_cons_succ]
                      refine wpAnyH_take (i := 25) (oi := ?oi25x106) (v := ?v25x106) ?hi25x106 (by kernel_rfl) (by kernel_rfl) (by kernel_rfl) ?hq25x106 ?hy25x106 hHeld ?rest25x106
                      case hi25x106 => ((try simp only [List.getElem?_toArray, List.getElem?_cons_succ, List.getElem?_cons_zero]); (try rfl))
                      case hq25x106 => exact fun _ _ _ h => h
                      case hy25x106 => exact Or.inl ⟨by rfl, by intro w hSw; clear hSw; go_simp; try with_reducible rfl⟩
                      try simp only [Act.put, List.setIfInBounds_toArray, List.set_cons_zero, List.set_cons_succ]
                      refine wpAnyH_take (i := 26) (oi := ?oi26x107) (v := ?v26x107) ?hi26x107 (by kernel_rfl) (by kernel_rfl) (by kernel_rfl) ?hq26x107 ?hy26x107 hHeld ?rest26x107
                      case hi26x107 => ((try simp only [List.getElem?_toArray, List.getElem?_cons_succ, List.getElem?_cons_zero]); (try rfl))
                      case hq26x107 => exact fun _ _ _ h => h
                      case hy26x107 => exact Or.inl ⟨by rfl, by intro w hSw; clear hSw; go_simp; try with_reducible rfl⟩
                      try simp only [Act.put, List.setIfInBounds_toArray, List.set_cons_zero, List.set_cons_succ]
                      refine wpAnyH_take (i := 27) (oi := ?oi27x108) (v := ?v27x108) ?hi27x108 (by kernel_rfl) (by kernel_rfl) (by kernel_rfl) ?hq27x108 ?hy27x108 hHeld ?rest27x108
                      case hi27x108 => ((try simp only [List.getElem?_toArray, List.getElem?_cons_succ, List.getElem?_cons_zero]); (try rfl))
                      case hq27x108 => exact fun _ _ _ h => h
                      case hy27x108 => exact Or.inl ⟨by rfl, by intro w hSw; clear hSw; go_simp; try with_reducible rfl⟩
                      try simp only [Act.put, List.setIfInBounds_toArray, List.set_cons_zero, List.set_cons_succ]
                      refine wpAnyH_take (i := 28) (oi := ?oi28x109) (v := ?v28x109) ?hi28x109 (by kernel_rfl) (by kernel_rfl) (by kernel_rfl) ?hq28x109 ?hy28x109 hHeld ?rest28x109
                      case hi28x109 => ((try simp only [List.getElem?_toArray, List.getElem?_cons_succ, List.getElem?_cons_zero]); (try rfl))
                      case hq28x109 => exact fun _ _ _ h => h
                      case hy28x109 => exact Or.inl ⟨by rfl, by intro w hSw; clear hSw; go_simp; try with_reducible rfl⟩
                      try simp only [Act.put, List.setIfInBounds_toArray, List.set_cons_zero, List.set_cons_succ]
                      refine wpAnyH_take (i := 29) (oi := ?oi29x110) (v := ?v29x110) ?hi29x110 (by kernel_rfl) (by kernel_rfl) (by kernel_rfl) ?hq29x110 ?hy29x110 hHeld ?rest29x110
                      case hi29x110 => ((try simp only [List.getElem?_toArray, List.getElem?_cons_succ, List.getElem?_cons_zero]); (try rfl))
                      case hq29x110 => exact fun _ _ _ h => h
                      case hy29x110 => exact Or.inl ⟨by rfl, by intro w hSw; clear hSw; go_simp; try with_reducible rfl⟩
                      try simp only [Act.put, List.setIfInBounds_toArray, List.set_cons_zero, List.set_cons_succ]
                      refine wpAnyH_take (i := 30) (oi := ?oi30x111) (v := ?v30x111) ?hi30x111 (by kernel_rfl) (by kernel_rfl) (by kernel_rfl) ?hq30x111 ?hy30x111 hHeld ?rest30x111
                      case hi30x111 => ((try simp only [List.getElem?_toArray, List.getElem?_cons_succ, List.getElem?_cons_zero]); (try rfl))
                      case hq30x111 => exact fun _ _ _ h => h
                      case hy30x111 => exact Or.inl ⟨by rfl, by intro w hSw; clear hSw; go_simp; try with_reducible rfl⟩
                      try simp only [Act.put, List.setIfInBounds_toArray, List.set_cons_zero, List.set_cons_succ]
                      refine wpAnyH_take (i := 31) (oi := ?oi31x112) (v := ?v31x112) ?hi31x112 (by kernel_rfl) (by kernel_rfl) (by kernel_rfl) ?hq31x112 ?hy31x112 hHeld ?rest31x112
                      case hi31x112 => ((try simp only [List.getElem?_toArray, List.getElem?_cons_succ, List.getElem?_cons_zero]); (try rfl))
                      case hq31x112 => exact fun _ _ _ h => h
                      case hy31x112 => exact Or.inl ⟨by rfl, by intro w hSw; clear hSw; go_simp; try with_reducible rfl⟩
                      try simp only [Act.put, List.setIfInBounds_toArray, List.set_cons_zero, List.set_cons_succ]
                      refine wpAnyH_take (i := 32) (oi := ?oi32x113) (v := ?v32x113) ?hi32x113 (by kernel_rfl) (by kernel_rfl) (by kernel_rfl) ?hq32x113 ?hy32x113 hHeld ?rest32x113
                      case hi32x113 => ((try simp only [List.getElem?_toArray, List.getElem?_cons_succ, List.getElem?_cons_zero]); (try rfl))
                      case hq32x113 => exact fun _ _ _ h => h
                      case hy32x113 =>
                        refine' yieldsIf_load_mid ?_ 33 (.tmp 59) ?_ b (off + i * 8) ?_ (obsC p) _ ?_ Tryz.underlying33 ?_ info8
                        · rfl
                        · rfl
                        · rfl
                        · exact fun _ h => SR.rp h
                        · rfl
                      try simp only [Act.put, List.setIfInBounds_toArray, List.set_cons_zero, List.set_cons_succ]
                      refine wpAnyH_take (i := 33) (oi := ?oi33x114) (v := ?v33x114) ?hi33x114 (by kernel_rfl) (by kernel_rfl) (by kernel_rfl) ?hq33x114 ?hy33x114 hHeld ?rest33x114
                      case hi33x114 => ((try simp only [List.getElem?_toArray, List.getElem?_cons_succ, List.getElem?_cons_zero]); (try rfl))
                      case hq33x114 => exact fun _ _ _ h => h
                      case hy33x114 => exact Or.inl ⟨by rfl, by intro w hSw; clear hSw; go_simp; try with_reducible rfl⟩
                      try simp only [Act.put, List.setIfInBounds_toArray, List.set_cons_zero, List.set_cons_succ]
                      refine wpAnyH_take (i := 34) (oi := ?oi34x115) (v := ?v34x115) ?hi34x115 (by kernel_rfl) (by kernel_rfl) (by kernel_rfl) ?hq34x115 ?hy34x115 hHeld ?rest34x115
                      case hi34x115 => ((try simp only [List.getElem?_toArray, List.getElem?_cons_succ, List.getElem?_cons_zero]); (try rfl))
                      case hq34x115 => exact fun _ _ _ h => h
                      case hy34x115 => exact Or.inl ⟨by rfl, by intro w hSw; clear hSw; go_simp; try with_reducible rfl⟩
                      try simp only [Act.put, List.setIfInBounds_toArray, List.set_cons_zero, List.set_cons_succ]
                      refine wpAnyH_take (i := 35) (oi := ?oi35x116) (v := ?v35x116) ?hi35x116 (by kernel_rfl) (by kernel_rfl) (by kernel_rfl) ?hq35x116 ?hy35x116 hHeld ?rest35x116
                      case hi35x116 => ((try simp only [List.getElem?_toArray, List.getElem?_cons_succ, List.getElem?_cons_zero]); (try rfl))
                      case hq35x116 => exact fun _ _ _ h => h
                      case hy35x116 => exact Or.inl ⟨by rfl, by intro w hSw; clear hSw; go_simp; try with_reducible rfl⟩
                      try simp only [Act.put, List.setIfInBounds_toArray, List.set_cons_zero, List.set_cons_succ]
                      refine wpAnyH_take (i := 36) (oi := ?oi36x117) (v := ?v36x117) ?hi36x117 (by kernel_rfl) (by kernel_rfl) (by kernel_rfl) ?hq36x117 ?hy36x117 hHeld ?rest36x117
                      case hi36x117 => ((try simp only [List.getElem?_toArray, List.getElem?_cons_succ, List.getElem?_cons_zero]); (try rfl))
                      case hq36x117 => exact fun _ _ _ h => h
                      case hy36x117 =>
                        refine' yieldsIf_load_mid ?_ 33 (.tmp 63) ?_ b (off + k * 8) ?_ (obsC q) _ ?_ Tryz.underlying33 ?_ info8
                        · rfl
                        · rfl
                        · rfl
                        · exact fun _ h => SR.rq h
                        · rfl
                      try simp only [Act.put, List.setIfInBounds_toArray, List.set_cons_zero, List.set_cons_succ]
                      refine wpAnyH_ready (rs := [37]) (by kernel_rfl) (by simp) ?_
                      refine AllReadyH.cons rfl (fun K' hK => ?_) AllReadyH.nil
                      clear hHeld
                      go_simp
                      refine (BP.out _).mono ?_
                      rintro e wx ⟨rfl, hb⟩
                      replace X := Lib.hid (X.out.call hb)
                      clear hb BP
                      refine hK.out _ _ X.out (fun hHeld => ?_)
                      clear hK
                      try simp only [Act.put, List.setIfInBounds_toArray, List.set_cons_zero, List.set_cons_succ]
                      refine wpAnyH_take (i := 38) (oi := ?oi38x118) (v := ?v38x118) ?hi38x118 (by kernel_rfl) (by kernel_rfl) (by kernel_rfl) ?hq38x118 ?hy38x118 hHeld ?rest38x118
                      case hi38x118 => ((try simp only [List.getElem?_toArray, List.getElem?_cons_succ, List.getElem?_cons_zero]); (try rfl))
                      case hq38x118 => exact fun _ _ _ h => h
                      case hy38x118 => exact Or.inl ⟨by rfl, by intro w hSw; clear hSw; go_simp; try with_reducible rfl⟩
                      try simp only [Act.put, List.setIfInBounds_toArray, List.set_cons_zero, List.set_cons_succ]
                      refine wpAnyH_take (i := 39) (oi := ?oi39x119) (v := ?v39x119) ?hi39x119 (by kernel_rfl) (by kernel_rfl) (by kernel_rfl) ?hq39x119 ?hy39x119 hHeld ?rest39x119
                      case hi39x119 => ((try simp only [List.getElem?_toArray, List.getElem?_cons_succ, List.getElem?_cons_zero]); (try rfl))
                      case hq39x119 => exact fun _ _ _ h => h
                      case hy39x119 => exact Or.inl ⟨by rfl, by intro w hSw; clear hSw; go_simp; try with_reducible rfl⟩
                      try simp only [Act.put, List.setIfInBounds_toArray, List.set_cons_zero, List.set_cons_succ]
                      refine wpAnyH_take (i := 40) (oi := ?oi40x120) (v := ?v40x120) ?hi40x120 (by kernel_rfl) (by kernel_rfl) (by kernel_rfl) ?hq40x120 ?hy40x120 hHeld ?rest40x120
                      case hi40x120 => ((try simp only [List.getElem?_toArray, List.getElem?_cons_succ, List.getElem?_cons_zero]); (try rfl))
                      case hq40x120 => exact fun _ _ _ h => h
                      case hy40x120 => exact Or.inl ⟨by rfl, by intro w hSw; clear hSw; go_simp; try with_reducible rfl⟩
                      try simp only [Act.put, List.setIfInBounds_toArray, List.set_cons_zero, List.set_cons_succ]
                      refine wpAnyH_take (i := 41) (oi := ?oi41x121) (v := ?v41x121) ?hi41x121 (by kernel_rfl) (by kernel_rfl) (by kernel_rfl) ?hq41x121 ?hy41x121 hHeld ?rest41x121
                      case hi41x121 => ((try simp only [List.getElem?_toArray, List.getElem?_cons_succ, List.getElem?_cons_zero]); (try rfl))
                      case hq41x121 => exact fun _ _ _ h => h
                      case hy41x121 => exact Or.inl ⟨by rfl, by intro w hSw; clear hSw; go_simp; try with_reducible rfl⟩
                      try simp only [Act.put, List.setIfInBounds_toArray, List.set_cons_zero, List.set_cons_succ]
                      refine wpAnyH_done (by kernel_rfl) ?_ _
                      clear hHeld
                      have X2 := Lib.hid X.out.two
                      have X3 := Lib.hid X.out.below
                      clear X
                      go_wp2_with fail
                      go_roundw
                      case rel => exact ⟨k + 1, by omega, by go_num, DD.out, X2, X3⟩
                      case measure => simp [intOf]; omega
                    · rw [decide_eq_false e5] at BP
                      have DD := Lib.hid (BEAT.out ⟨e1, e2, Or.inr ⟨e4, e5⟩⟩)
                      clear BEAT KEEP e1 e2 e3 e4 e5
                      go_upto_region 13 with fail
                      refine wp_region_held_drew (S := fun wx => SR w vk (keptTo l i) vd (dropTo l i) b off i k p q wx) (by kernel_rfl) X.out (fun hHeld => ?_)
                      refine wpAnyH_take (i := 0) (oi := ?oi0x122) (v := ?v0x122) ?hi0x122 (by kernel_rfl) (by kernel_rfl) (by kernel_rfl) ?hq0x122 ?hy0x122 hHeld ?rest0x122
                      case hi0x122 => ((try simp only [List.getElem?_toArray, List.getElem?_cons_succ, List.getElem?_cons_zero]); (try rfl))
                      case hq0x122 => exact fun _ _ _ h => h
                      case hy0x122 => exact Or.inl ⟨by rfl, by intro w hSw; clear hSw; go_simp; try with_reducible rfl⟩
                      try simp only [Act.put, List.setIfInBounds_toArray, List.set_cons_zero, List.set_cons_succ]
                      refine wpAnyH_take (i := 1) (oi := ?oi1x123) (v := ?v1x123) ?hi1x123 (by kernel_rfl) (by kernel_rfl) (by kernel_rfl) ?hq1x123 ?hy1x123 hHeld ?rest1x123
                      case hi1x123 => ((try simp only [List.getElem?_toArray, List.getElem?_cons_succ, List.getElem?_cons_zero]); (try rfl))
                      case hq1x123 => exact fun _ _ _ h => h
                      case hy1x123 => exact Or.inl ⟨by rfl, by intro w hSw; clear hSw; go_simp; try with_reducible rfl⟩
                      try simp only [Act.put, List.setIfInBounds_toArray, List.set_cons_zero, List.set_cons_succ]
                      refine wpAnyH_take (i := 2) (oi := ?oi2x124) (v := ?v2x124) ?hi2x124 (by kernel_rfl) (by kernel_rfl) (by kernel_rfl) ?hq2x124 ?hy2x124 hHeld ?rest2x124
                      case hi2x124 => ((try simp only [List.getElem?_toArray, List.getElem?_cons_succ, List.getElem?_cons_zero]); (try rfl))
                      case hq2x124 => exact fun _ _ _ h => h
                      case hy2x124 => exact Or.inl ⟨by rfl, by intro w hSw; clear hSw; go_simp; try with_reducible rfl⟩
                      try simp only [Act.put, List.setIfInBounds_toArray, List.set_cons_zero, List.set_cons_succ]
                      refine wpAnyH_take (i := 3) (oi := ?oi3x125) (v := ?v3x125) ?hi3x125 (by kernel_rfl) (by kernel_rfl) (by kernel_rfl) ?hq3x125 ?hy3x125 hHeld ?rest3x125
                      case hi3x125 => ((try simp only [List.getElem?_toArray, List.getElem?_cons_succ, List.getElem?_cons_zero]); (try rfl))
                      case hq3x125 => exact fun _ _ _ h => h
                      case hy3x125 => exact Or.inl ⟨by rfl, by intro w hSw; clear hSw; go_simp; try with_reducible rfl⟩
                      try simp only [Act.put, List.setIfInBounds_toArray, List.set_cons_zero, List.set_cons_succ]
                      refine wpAnyH_take (i := 4) (oi := ?oi4x126) (v := ?v4x126) ?hi4x126 (by kernel_rfl) (by kernel_rfl) (by kernel_rfl) ?hq4x126 ?hy4x126 hHeld ?rest4x126
                      case hi4x126 => ((try simp only [List.getElem?_toArray, List.getElem?_cons_succ, List.getElem?_cons_zero]); (try rfl))
                      case hq4x126 => exact fun _ _ _ h => h
                      case hy4x126 => exact Or.inl ⟨by rfl, by intro w hSw; clear hSw; go_simp; try with_reducible rfl⟩
                      try simp only [Act.put, List.setIfInBounds_toArray, List.set_cons_zero, List.set_cons_succ]
                      refine wpAnyH_take (i := 5) (oi := ?oi5x127) (v := ?v5x127) ?hi5x127 (by kernel_rfl) (by kernel_rfl) (by kernel_rfl) ?hq5x127 ?hy5x127 hHeld ?rest5x127
                      case hi5x127 => ((try simp only [List.getElem?_toArray, List.getElem?_cons_succ, List.getElem?_cons_zero]); (try rfl))
                      case hq5x127 => exact fun _ _ _ h => h
                      case hy5x127 => exact Or.inl ⟨by rfl, by intro w hSw; clear hSw; go_simp; try with_reducible rfl⟩
                      try simp only [Act.put, List.setIfInBounds_toArray, List.set_cons_zero, List.set_cons_succ]
                      refine wpAnyH_take (i := 6) (oi := ?oi6x128) (v := ?v6x128) ?hi6x128 (by kernel_rfl) (by kernel_rfl) (by kernel_rfl) ?hq6x128 ?hy6x128 hHeld ?rest6x128
                      case hi6x128 => ((try simp only [List.getElem?_toArray, List.getElem?_cons_succ, List.getElem?_cons_zero]); (try rfl))
                      case hq6x128 => exact fun _ _ _ h => h
                      case hy6x128 => exact Or.inl ⟨by rfl, by intro w hSw; clear hSw; go_simp; try with_reducible rfl⟩
                      try simp only [Act.put, List.setIfInBounds_toArray, List.set_cons_zero, List.set_cons_succ]
                      refine wpAnyH_take (i := 7) (oi := ?oi7x129) (v := ?v7x129) ?hi7x129 (by kernel_rfl) (by kernel_rfl) (by kernel_rfl) ?hq7x129 ?hy7x129 hHeld ?rest7x129
                      case hi7x129 => ((try simp only [List.getElem?_toArray, List.getElem?_cons_succ, List.getElem?_cons_zero]); (try rfl))
                      case hq7x129 => exact fun _ _ _ h => h
                      case hy7x129 =>
                        refine' yieldsIf_load_mid ?_ 33 (.tmp 34) ?_ b (off + i * 8) ?_ (obsC p) _ ?_ Tryz.underlying33 ?_ info8
                        · rfl
                        · rfl
                        · rfl
                        · exact fun _ h => SR.rp h
                        · rfl
                      try simp only [Act.put, List.setIfInBounds_toArray, List.set_cons_zero, List.set_cons_succ]
                      refine wpAnyH_take (i := 8) (oi := ?oi8x130) (v := ?v8x130) ?hi8x130 (by kernel_rfl) (by kernel_rfl) (by kernel_rfl) ?hq8x130 ?hy8x130 hHeld ?rest8x130
                      case hi8x130 => ((try simp only [List.getElem?_toArray, List.getElem?_cons_succ, List.getElem?_cons_zero]); (try rfl))
                      case hq8x130 => exact fun _ _ _ h => h
                      case hy8x130 => exact Or.inl ⟨by rfl, by intro w hSw; clear hSw; go_simp; try with_reducible rfl⟩
                      try simp only [Act.put, List.setIfInBounds_toArray, List.set_cons_zero, List.set_cons_succ]
                      refine wpAnyH_take (i := 9) (oi := ?oi9x131) (v := ?v9x131) ?hi9x131 (by kernel_rfl) (by kernel_rfl) (by kernel_rfl) ?hq9x131 ?hy9x131 hHeld ?rest9x131
                      case hi9x131 => ((try simp only [List.getElem?_toArray, List.getElem?_cons_succ, List.getElem?_cons_zero]); (try rfl))
                      case hq9x131 => exact fun _ _ _ h => h
                      case hy9x131 => exact Or.inl ⟨by rfl, by intro w hSw; clear hSw; go_simp; try with_reducible rfl⟩
                      try simp only [Act.put, List.setIfInBounds_toArray, List.set_cons_zero, List.set_cons_succ]
                      refine wpAnyH_take (i := 10) (oi := ?oi10x132) (v := ?v10x132) ?hi10x132 (by kernel_rfl) (by kernel_rfl) (by kernel_rfl) ?hq10x132 ?hy10x132 hHeld ?rest10x132
                      case hi10x132 => ((try simp only [List.getElem?_toArray, List.getElem?_cons_succ, List.getElem?_cons_zero]); (try rfl))
                      case hq10x132 => exact fun _ _ _ h => h
                      case hy10x132 => exact Or.inl ⟨by rfl, by intro w hSw; clear hSw; go_simp; try with_reducible rfl⟩
                      try simp only [Act.put, List.setIfInBounds_toArray, List.set_cons_zero, List.set_cons_succ]
                      refine wpAnyH_take (i := 11) (oi := ?oi11x133) (v := ?v11x133) ?hi11x133 (by kernel_rfl) (by kernel_rfl) (by kernel_rfl) ?hq11x133 ?hy11x133 hHeld ?rest11x133
                      case hi11x133 => ((try simp only [List.getElem?_toArray, List.getElem?_cons_succ, List.getElem?_cons_zero]); (try rfl))
                      case hq11x133 => exact fun _ _ _ h => h
                      case hy11x133 =>
                        refine' yieldsIf_load_mid ?_ 33 (.tmp 38) ?_ b (off + k * 8) ?_ (obsC q) _ ?_ Tryz.underlying33 ?_ info8
                        · rfl
                        · rfl
                        · rfl
                        · exact fun _ h => SR.rq h
                        · rfl
                      try simp only [Act.put, List.setIfInBounds_toArray, List.set_cons_zero, List.set_cons_succ]
                      refine wpAnyH_ready (rs := [12]) (by kernel_rfl) (by simp) ?_
                      refine AllReadyH.cons rfl (fun K' hK => ?_) AllReadyH.nil
                      clear hHeld
                      go_simp
                      refine (TW.out _).mono ?_
                      rintro e wx ⟨rfl, hb⟩
                      replace X := Lib.hid (X.out.call hb)
                      clear hb TW
                      refine hK.out _ _ X.out (fun hHeld => ?_)
                      clear hK
                      try simp only [Act.put, List.setIfInBounds_toArray, List.set_cons_zero, List.set_cons_succ]
                      refine wpAnyH_take (i := 13) (oi := ?oi13x134) (v := ?v13x134) ?hi13x134 (by kernel_rfl) (by kernel_rfl) (by kernel_rfl) ?hq13x134 ?hy13x134 hHeld ?rest13x134
                      case hi13x134 => ((try simp only [List.getElem?_toArray, List.getElem?_cons_succ, List.getElem?_cons_zero]); (try rfl))
                      case hq13x134 => exact fun _ _ _ h => h
                      case hy13x134 => exact Or.inl ⟨by rfl, by intro w hSw; clear hSw; go_simp; try with_reducible rfl⟩
                      try simp only [Act.put, List.setIfInBounds_toArray, List.set_cons_zero, List.set_cons_succ]
                      refine wpAnyH_take (i := 14) (oi := ?oi14x135) (v := ?v14x135) ?hi14x135 (by kernel_rfl) (by kernel_rfl) (by kernel_rfl) ?hq14x135 ?hy14x135 hHeld ?rest14x135
                      case hi14x135 => ((try simp only [List.getElem?_toArray, List.getElem?_cons_succ, List.getElem?_cons_zero]); (try rfl))
                      case hq14x135 => exact fun _ _ _ h => h
                      case hy14x135 => exact Or.inl ⟨by rfl, by intro w hSw; clear hSw; go_simp; try with_reducible rfl⟩
                      try simp only [Act.put, List.setIfInBounds_toArray, List.set_cons_zero, List.set_cons_succ]
                      refine wpAnyH_take (i := 15) (oi := ?oi15x136) (v := ?v15x136) ?hi15x136 (by kernel_rfl) (by kernel_rfl) (by kernel_rfl) ?hq15x136 ?hy15x136 hHeld ?rest15x136
                      case hi15x136 => ((try simp only [List.getElem?_toArray, List.getElem?_cons_succ, List.getElem?_cons_zero]); (try rfl))
                      case hq15x136 => exact fun _ _ _ h => h
                      case hy15x136 => exact Or.inl ⟨by rfl, by intro w hSw; clear hSw; go_simp; try with_reducible rfl⟩
                      try simp only [Act.put, List.setIfInBounds_toArray, List.set_cons_zero, List.set_cons_succ]
                      refine wpAnyH_take (i := 16) (oi := ?oi16x137) (v := ?v16x137) ?hi16x137 (by kernel_rfl) (by kernel_rfl) (by kernel_rfl) ?hq16x137 ?hy16x137 hHeld ?rest16x137
                      case hi16x137 => ((try simp only [List.getElem?_toArray, List.getElem?_cons_succ, List.getElem?_cons_zero]); (try rfl))
                      case hq16x137 => exact fun _ _ _ h => h
                      case hy16x137 => exact Or.inl ⟨by rfl, by intro w hSw; clear hSw; go_simp; try with_reducible rfl⟩
                      try simp only [Act.put, List.setIfInBounds_toArray, List.set_cons_zero, List.set_cons_succ]
                      refine wpAnyH_take (i := 17) (oi := ?oi17x138) (v := ?v17x138) ?hi17x138 (by kernel_rfl) (by kernel_rfl) (by kernel_rfl) ?hq17x138 ?hy17x138 hHeld ?rest17x138
                      case hi17x138 => ((try simp only [List.getElem?_toArray, List.getElem?_cons_succ, List.getElem?_cons_zero]); (try rfl))
                      case hq17x138 => exact fun _ _ _ h => h
                      case hy17x138 => exact Or.inl ⟨by rfl, by intro w hSw; clear hSw; go_simp; try with_reducible rfl⟩
                      try simp only [Act.put, List.setIfInBounds_toArray, List.set_cons_zero, List.set_cons_succ]
                      refine wpAnyH_take (i := 18) (oi := ?oi18x139) (v := ?v18x139) ?hi18x139 (by kernel_rfl) (by kernel_rfl) (by kernel_rfl) ?hq18x139 ?hy18x139 hHeld ?rest18x139
                      case hi18x139 => ((try simp only [List.getElem?_toArray, List.getElem?_cons_succ, List.getElem?_cons_zero]); (try rfl))
                      case hq18x139 => exact fun _ _ _ h => h
                      case hy18x139 =>
                        refine' yieldsIf_load_mid ?_ 33 (.tmp 45) ?_ b (off + k * 8) ?_ (obsC q) _ ?_ Tryz.underlying33 ?_ info8
                        · rfl
                        · rfl
                        · rfl
                        · exact fun _ h => SR.rq h
                        · rfl
                      try simp only [Act.put, List.setIfInBounds_toArray, List.set_cons_zero, List.set_cons_succ]
                      refine wpAnyH_take (i := 19) (oi := ?oi19x140) (v := ?v19x140) ?hi19x140 (by kernel_rfl) (by kernel_rfl) (by kernel_rfl) ?hq19x140 ?hy19x140 hHeld ?rest19x140
                      case hi19x140 => ((try simp only [List.getElem?_toArray, List.getElem?_cons_succ, List.getElem?_cons_zero]); (try rfl))
                      case hq19x140 => exact fun _ _ _ h => h
                      case hy19x140 => exact Or.inl ⟨by rfl, by intro w hSw; clear hSw; go_simp; try with_reducible rfl⟩
                      try simp only [Act.put, List.setIfInBounds_toArray, List.set_cons_zero, List.set_cons_succ]
                      refine wpAnyH_take (i := 20) (oi := ?oi20x141) (v := ?v20x141) ?hi20x141 (by kernel_rfl) (by kernel_rfl) (by kernel_rfl) ?hq20x141 ?hy20x141 hHeld ?rest20x141
                      case hi20x141 => ((try simp only [List.getElem?_toArray, List.getElem?_cons_succ, List.getElem?_cons_zero]); (try rfl))
                      case hq20x141 => exact fun _ _ _ h => h
                      case hy20x141 => exact Or.inl ⟨by rfl, by intro w hSw; clear hSw; go_simp; try with_reducible rfl⟩
                      try simp only [Act.put, List.setIfInBounds_toArray, List.set_cons_zero, List.set_cons_succ]
                      refine wpAnyH_take (i := 21) (oi := ?oi21x142) (v := ?v21x142) ?hi21x142 (by kernel_rfl) (by kernel_rfl) (by kernel_rfl) ?hq21x142 ?hy21x142 hHeld ?rest21x142
                      case hi21x142 => ((try simp only [List.getElem?_toArray, List.getElem?_cons_succ, List.getElem?_cons_zero]); (try rfl))
                      case hq21x142 => exact fun _ _ _ h => h
                      case hy21x142 => exact Or.inl ⟨by rfl, by intro w hSw; clear hSw; go_simp; try with_reducible rfl⟩
                      try simp only [Act.put, List.setIfInBounds_toArray, List.set_cons_zero, List.set_cons_succ]
                      refine wpAnyH_take (i := 22) (oi := ?oi22x143) (v := ?v22x143) ?hi22x143 (by kernel_rfl) (by kernel_rfl) (by kernel_rfl) ?hq22x143 ?hy22x143 hHeld ?rest22x143
                      case hi22x143 => ((try simp only [List.getElem?_toArray, List.getElem?_cons_succ, List.getElem?_cons_zero]); (try rfl))
                      case hq22x143 => exact fun _ _ _ h => h
                      case hy22x143 =>
                        refine' yieldsIf_load_mid ?_ 33 (.tmp 49) ?_ b (off + i * 8) ?_ (obsC p) _ ?_ Tryz.underlying33 ?_ info8
                        · rfl
                        · rfl
                        · rfl
                        · exact fun _ h => SR.rp h
                        · rfl
                      try simp only [Act.put, List.setIfInBounds_toArray, List.set_cons_zero, List.set_cons_succ]
                      refine wpAnyH_ready (rs := [23]) (by kernel_rfl) (by simp) ?_
                      refine AllReadyH.cons rfl (fun K' hK => ?_) AllReadyH.nil
                      clear hHeld
                      go_simp
                      refine (BQ.out _).mono ?_
                      rintro e wx ⟨rfl, hb⟩
                      replace X := Lib.hid (X.out.call hb)
                      clear hb BQ
                      refine hK.out _ _ X.out (fun hHeld => ?_)
                      clear hK
                      try simp only [Act.put, List.setIfInBounds_toArray, List.set_cons_zero, List.set_cons_succ]
                      refine wpAnyH_take (i := 24) (oi := ?oi24x144) (v := ?v24x144) ?hi24x144 (by kernel_rfl) (by kernel_rfl) (by kernel_rfl) ?hq24x144 ?hy24x144 hHeld ?rest24x144
                      case hi24x144 => ((try simp only [List.getElem?_toArray, List.getElem?_cons_succ, List.getElem?_cons_zero]); (try rfl))
                      case hq24x144 => exact fun _ _ _ h => h
                      case hy24x144 => exact Or.inl ⟨by rfl, by intro w hSw; clear hSw; go_simp; try with_reducible rfl⟩
                      try simp only [Act.put, List.setIfInBounds_toArray, List.set_cons_zero, List.set_cons_succ]
                      refine wpAnyH_take (i := 25) (oi := ?oi25x145) (v := ?v25x145) ?hi25x145 (by kernel_rfl) (by kernel_rfl) (by kernel_rfl) ?hq25x145 ?hy25x145 hHeld ?rest25x145
                      case hi25x145 => ((try simp only [List.getElem?_toArray, List.getElem?_cons_succ, List.getElem?_cons_zero]); (try rfl))
                      case hq25x145 => exact fun _ _ _ h => h
                      case hy25x145 => exact Or.inl ⟨by rfl, by intro w hSw; clear hSw; go_simp; try with_reducible rfl⟩
                      try simp only [Act.put, List.setIfInBounds_toArray, List.set_cons_zero, List.set_cons_succ]
                      refine wpAnyH_take (i := 26) (oi := ?oi26x146) (v := ?v26x146) ?hi26x146 (by kernel_rfl) (by kernel_rfl) (by kernel_rfl) ?hq26x146 ?hy26x146 hHeld ?rest26x146
                      case hi26x146 => ((try simp only [List.getElem?_toArray, List.getElem?_cons_succ, List.getElem?_cons_zero]); (try rfl))
                      case hq26x146 => exact fun _ _ _ h => h
                      case hy26x146 => exact Or.inl ⟨by rfl, by intro w hSw; clear hSw; go_simp; try with_reducible rfl⟩
                      try simp only [Act.put, List.setIfInBounds_toArray, List.set_cons_zero, List.set_cons_succ]
                      refine wpAnyH_take (i := 27) (oi := ?oi27x147) (v := ?v27x147) ?hi27x147 (by kernel_rfl) (by kernel_rfl) (by kernel_rfl) ?hq27x147 ?hy27x147 hHeld ?rest27x147
                      case hi27x147 => ((try simp only [List.getElem?_toArray, List.getElem?_cons_succ, List.getElem?_cons_zero]); (try rfl))
                      case hq27x147 => exact fun _ _ _ h => h
                      case hy27x147 => exact Or.inl ⟨by rfl, by intro w hSw; clear hSw; go_simp; try with_reducible rfl⟩
                      try simp only [Act.put, List.setIfInBounds_toArray, List.set_cons_zero, List.set_cons_succ]
                      refine wpAnyH_take (i := 28) (oi := ?oi28x148) (v := ?v28x148) ?hi28x148 (by kernel_rfl) (by kernel_rfl) (by kernel_rfl) ?hq28x148 ?hy28x148 hHeld ?rest28x148
                      case hi28x148 => ((try simp only [List.getElem?_toArray, List.getElem?_cons_succ, List.getElem?_cons_zero]); (try rfl))
                      case hq28x148 => exact fun _ _ _ h => h
                      case hy28x148 => exact Or.inl ⟨by rfl, by intro w hSw; clear hSw; go_simp; try with_reducible rfl⟩
                      try simp only [Act.put, List.setIfInBounds_toArray, List.set_cons_zero, List.set_cons_succ]
                      refine wpAnyH_take (i := 29) (oi := ?oi29x149) (v := ?v29x149) ?hi29x149 (by kernel_rfl) (by kernel_rfl) (by kernel_rfl) ?hq29x149 ?hy29x149 hHeld ?rest29x149
                      case hi29x149 => ((try simp only [List.getElem?_toArray, List.getElem?_cons_succ, List.getElem?_cons_zero]); (try rfl))
                      case hq29x149 => exact fun _ _ _ h => h
                      case hy29x149 => exact Or.inl ⟨by rfl, by intro w hSw; clear hSw; go_simp; try with_reducible rfl⟩
                      try simp only [Act.put, List.setIfInBounds_toArray, List.set_cons_zero, List.set_cons_succ]
                      refine wpAnyH_take (i := 30) (oi := ?oi30x150) (v := ?v30x150) ?hi30x150 (by kernel_rfl) (by kernel_rfl) (by kernel_rfl) ?hq30x150 ?hy30x150 hHeld ?rest30x150
                      case hi30x150 => ((try simp only [List.getElem?_toArray, List.getElem?_cons_succ, List.getElem?_cons_zero]); (try rfl))
                      case hq30x150 => exact fun _ _ _ h => h
                      case hy30x150 => exact Or.inl ⟨by rfl, by intro w hSw; clear hSw; go_simp; try with_reducible rfl⟩
                      try simp only [Act.put, List.setIfInBounds_toArray, List.set_cons_zero, List.set_cons_succ]
                      refine wpAnyH_take (i := 31) (oi := ?oi31x151) (v := ?v31x151) ?hi31x151 (by kernel_rfl) (by kernel_rfl) (by kernel_rfl) ?hq31x151 ?hy31x151 hHeld ?rest31x151
                      case hi31x151 => ((try simp only [List.getElem?_toArray, List.getElem?_cons_succ, List.getElem?_cons_zero]); (try rfl))
                      case hq31x151 => exact fun _ _ _ h => h
                      case hy31x151 => exact Or.inl ⟨by rfl, by intro w hSw; clear hSw; go_simp; try with_reducible rfl⟩
                      try simp only [Act.put, List.setIfInBounds_toArray, List.set_cons_zero, List.set_cons_succ]
                      refine wpAnyH_take (i := 32) (oi := ?oi32x152) (v := ?v32x152) ?hi32x152 (by kernel_rfl) (by kernel_rfl) (by kernel_rfl) ?hq32x152 ?hy32x152 hHeld ?rest32x152
                      case hi32x152 => ((try simp only [List.getElem?_toArray, List.getElem?_cons_succ, List.getElem?_cons_zero]); (try rfl))
                      case hq32x152 => exact fun _ _ _ h => h
                      case hy32x152 =>
                        refine' yieldsIf_load_mid ?_ 33 (.tmp 59) ?_ b (off + i * 8) ?_ (obsC p) _ ?_ Tryz.underlying33 ?_ info8
                        · rfl
                        · rfl
                        · rfl
                        · exact fun _ h => SR.rp h
                        · rfl
                      try simp only [Act.put, List.setIfInBounds_toArray, List.set_cons_zero, List.set_cons_succ]
                      refine wpAnyH_take (i := 33) (oi := ?oi33x153) (v := ?v33x153) ?hi33x153 (by kernel_rfl) (by kernel_rfl) (by kernel_rfl) ?hq33x153 ?hy33x153 hHeld ?rest33x153
                      case hi33x153 => ((try simp only [List.getElem?_toArray, List.getElem?_cons_succ, List.getElem?_cons_zero]); (try rfl))
                      case hq33x153 => exact fun _ _ _ h => h
                      case hy33x153 => exact Or.inl ⟨by rfl, by intro w hSw; clear hSw; go_simp; try with_reducible rfl⟩
                      try simp only [Act.put, List.setIfInBounds_toArray, List.set_cons_zero, List.set_cons_succ]
                      refine wpAnyH_take (i := 34) (oi := ?oi34x154) (v := ?v34x154) ?hi34x154 (by kernel_rfl) (by kernel_rfl) (by kernel_rfl) ?hq34x154 ?hy34x154 hHeld ?rest34x154
                      case hi34x154 => ((try simp only [List.getElem?_toArray, List.getElem?_cons_succ, List.getElem?_cons_zero]); (try rfl))
                      case hq34x154 => exact fun _ _ _ h => h
                      case hy34x154 => exact Or.inl ⟨by rfl, by intro w hSw; clear hSw; go_simp; try with_reducible rfl⟩
                      try simp only [Act.put, List.setIfInBounds_toArray, List.set_cons_zero, List.set_cons_succ]
                      refine wpAnyH_take (i := 35) (oi := ?oi35x155) (v := ?v35x155) ?hi35x155 (by kernel_rfl) (by kernel_rfl) (by kernel_rfl) ?hq35x155 ?hy35x155 hHeld ?rest35x155
                      case hi35x155 => ((try simp only [List.getElem?_toArray, List.getElem?_cons_succ, List.getElem?_cons_zero]); (try rfl))
                      case hq35x155 => exact fun _ _ _ h => h
                      case hy35x155 => exact Or.inl ⟨by rfl, by intro w hSw; clear hSw; go_simp; try with_reducible rfl⟩
                      try simp only [Act.put, List.setIfInBounds_toArray, List.set_cons_zero, List.set_cons_succ]
                      refine wpAnyH_take (i := 36) (oi := ?oi36x156) (v := ?v36x156) ?hi36x156 (by kernel_rfl) (by kernel_rfl) (by kernel_rfl) ?hq36x156 ?hy36x156 hHeld ?rest36x156
                      case hi36x156 => ((try simp only [List.getElem?_toArray, List.getElem?_cons_succ, List.getElem?_cons_zero]); (try rfl))
                      case hq36x156 => exact fun _ _ _ h => h
                      case hy36x156 =>
                        refine' yieldsIf_load_mid ?_ 33 (.tmp 63) ?_ b (off + k * 8) ?_ (obsC q) _ ?_ Tryz.underlying33 ?_ info8
                        · rfl
                        · rfl
                        · rfl
                        · exact fun _ h => SR.rq h
                        · rfl
                      try simp only [Act.put, List.setIfInBounds_toArray, List.set_cons_zero, List.set_cons_succ]
                      refine wpAnyH_ready (rs := [37]) (by kernel_rfl) (by simp) ?_
                      refine AllReadyH.cons rfl (fun K' hK => ?_) AllReadyH.nil
                      clear hHeld
                      go_simp
                      refine (BP.out _).mono ?_
                      rintro e wx ⟨rfl, hb⟩
                      replace X := Lib.hid (X.out.call hb)
                      clear hb BP
                      refine hK.out _ _ X.out (fun hHeld => ?_)
                      clear hK
                      try simp only [Act.put, List.setIfInBounds_toArray, List.set_cons_zero, List.set_cons_succ]
                      refine wpAnyH_take (i := 38) (oi := ?oi38x157) (v := ?v38x157) ?hi38x157 (by kernel_rfl) (by kernel_rfl) (by kernel_rfl) ?hq38x157 ?hy38x157 hHeld ?rest38x157
                      case hi38x157 => ((try simp only [List.getElem?_toArray, List.getElem?_cons_succ, List.getElem?_cons_zero]); (try rfl))
                      case hq38x157 => exact fun _ _ _ h => h
                      case hy38x157 => exact Or.inl ⟨by rfl, by intro w hSw; clear hSw; go_simp; try with_reducible rfl⟩
                      try simp only [Act.put, List.setIfInBounds_toArray, List.set_cons_zero, List.set_cons_succ]
                      refine wpAnyH_take (i := 39) (oi := ?oi39x158) (v := ?v39x158) ?hi39x158 (by kernel_rfl) (by kernel_rfl) (by kernel_rfl) ?hq39x158 ?hy39x158 hHeld ?rest39x158
                      case hi39x158 => ((try simp only [List.getElem?_toArray, List.getElem?_cons_succ, List.getElem?_cons_zero]); (try rfl))
                      case hq39x158 => exact fun _ _ _ h => h
                      case hy39x158 => exact Or.inl ⟨by rfl, by intro w hSw; clear hSw; go_simp; try with_reducible rfl⟩
                      try simp only [Act.put, List.setIfInBounds_toArray, List.set_cons_zero, List.set_cons_succ]
                      refine wpAnyH_take (i := 40) (oi := ?oi40x159) (v := ?v40x159) ?hi40x159 (by kernel_rfl) (by kernel_rfl) (by kernel_rfl) ?hq40x159 ?hy40x159 hHeld ?rest40x159
                      case hi40x159 => ((try simp only [List.getElem?_toArray, List.getElem?_cons_succ, List.getElem?_cons_zero]); (try rfl))
                      case hq40x159 => exact fun _ _ _ h => h
                      case hy40x159 => exact Or.inl ⟨by rfl, by intro w hSw; clear hSw; go_simp; try with_reducible rfl⟩
                      try simp only [Act.put, List.setIfInBounds_toArray, List.set_cons_zero, List.set_cons_succ]
                      refine wpAnyH_take (i := 41) (oi := ?oi41x160) (v := ?v41x160) ?hi41x160 (by kernel_rfl) (by kernel_rfl) (by kernel_rfl) ?hq41x160 ?hy41x160 hHeld ?rest41x160
                      case hi41x160 => ((try simp only [List.getElem?_toArray, List.getElem?_cons_succ, List.getElem?_cons_zero]); (try rfl))
                      case hq41x160 => exact fun _ _ _ h => h
                      case hy41x160 => exact Or.inl ⟨by rfl, by intro w hSw; clear hSw; go_simp; try with_reducible rfl⟩
                      try simp only [Act.put, List.setIfInBounds_toArray, List.set_cons_zero, List.set_cons_succ]
                      refine wpAnyH_done (by kernel_rfl) ?_ _
                      clear hHeld
                      have X2 := Lib.hid X.out.two
                      have X3 := Lib.hid X.out.below
                      clear X
                      go_wp2_with fail
                      go_roundw
                      case rel => exact ⟨k + 1, by omega, by go_num, by rw [DD.out], X2, X3⟩
                      case measure => simp [intOf]; omega
                  · have n2 : decide ((k : Int) < (i : Int)) = false := decide_eq_false (by omega)
                    have n3 : ¬ (k : Int) < (i : Int) := by omega
                    have DD := Lib.hid (KEEP.out (fun h => by rcases h.2.2 with h | h; exact e3 h; exact e4 h.1))
                    clear BP BEAT KEEP e1 e2 e3 e4
                    go_upto_region 13 with fail
                    refine wp_region_held_drew (S := fun wx => SR w vk (keptTo l i) vd (dropTo l i) b off i k p q wx) (by kernel_rfl) X.out (fun hHeld => ?_)
                    refine wpAnyH_take (i := 0) (oi := ?oi0x161) (v := ?v0x161) ?hi0x161 (by kernel_rfl) (by kernel_rfl) (by kernel_rfl) ?hq0x161 ?hy0x161 hHeld ?rest0x161
                    case hi0x161 => ((try simp only [List.getElem?_toArray, List.getElem?_cons_succ, List.getElem?_cons_zero]); (try rfl))
                    case hq0x161 => exact fun _ _ _ h => h
                    case hy0x161 => exact Or.inl ⟨by rfl, by intro w hSw; clear hSw; go_simp; try with_reducible rfl⟩
                    try simp only [Act.put, List.setIfInBounds_toArray, List.set_cons_zero, List.set_cons_succ]
                    refine wpAnyH_take (i := 1) (oi := ?oi1x162) (v := ?v1x162) ?hi1x162 (by kernel_rfl) (by kernel_rfl) (by kernel_rfl) ?hq1x162 ?hy1x162 hHeld ?rest1x162
                    case hi1x162 => ((try simp only [List.getElem?_toArray, List.getElem?_cons_succ, List.getElem?_cons_zero]); (try rfl))
                    case hq1x162 => exact fun _ _ _ h => h
                    case hy1x162 => exact Or.inl ⟨by rfl, by intro w hSw; clear hSw; go_simp; try with_reducible rfl⟩
                    try simp only [Act.put, List.setIfInBounds_toArray, List.set_cons_zero, List.set_cons_succ]
                    refine wpAnyH_take (i := 2) (oi := ?oi2x163) (v := ?v2x163) ?hi2x163 (by kernel_rfl) (by kernel_rfl) (by kernel_rfl) ?hq2x163 ?hy2x163 hHeld ?rest2x163
                    case hi2x163 => ((try simp only [List.getElem?_toArray, List.getElem?_cons_succ, List.getElem?_cons_zero]); (try rfl))
                    case hq2x163 => exact fun _ _ _ h => h
                    case hy2x163 => exact Or.inl ⟨by rfl, by intro w hSw; clear hSw; go_simp; try with_reducible rfl⟩
                    try simp only [Act.put, List.setIfInBounds_toArray, List.set_cons_zero, List.set_cons_succ]
                    refine wpAnyH_take (i := 3) (oi := ?oi3x164) (v := ?v3x164) ?hi3x164 (by kernel_rfl) (by kernel_rfl) (by kernel_rfl) ?hq3x164 ?hy3x164 hHeld ?rest3x164
                    case hi3x164 => ((try simp only [List.getElem?_toArray, List.getElem?_cons_succ, List.getElem?_cons_zero]); (try rfl))
                    case hq3x164 => exact fun _ _ _ h => h
                    case hy3x164 => exact Or.inl ⟨by rfl, by intro w hSw; clear hSw; go_simp; try with_reducible rfl⟩
                    try simp only [Act.put, List.setIfInBounds_toArray, List.set_cons_zero, List.set_cons_succ]
                    refine wpAnyH_take (i := 4) (oi := ?oi4x165) (v := ?v4x165) ?hi4x165 (by kernel_rfl) (by kernel_rfl) (by kernel_rfl) ?hq4x165 ?hy4x165 hHeld ?rest4x165
                    case hi4x165 => ((try simp only [List.getElem?_toArray, List.getElem?_cons_succ, List.getElem?_cons_zero]); (try rfl))
                    case hq4x165 => exact fun _ _ _ h => h
                    case hy4x165 => exact Or.inl ⟨by rfl, by intro w hSw; clear hSw; go_simp; try with_reducible rfl⟩
                    try simp only [Act.put, List.setIfInBounds_toArray, List.set_cons_zero, List.set_cons_succ]
                    refine wpAnyH_take (i := 5) (oi := ?oi5x166) (v := ?v5x166) ?hi5x166 (by kernel_rfl) (by kernel_rfl) (by kernel_rfl) ?hq5x166 ?hy5x166 hHeld ?rest5x166
                    case hi5x166 => ((try simp only [List.getElem?_toArray, List.getElem?_cons_succ, List.getElem?_cons_zero]); (try rfl))
                    case hq5x166 => exact fun _ _ _ h => h
                    case hy5x166 => exact Or.inl ⟨by rfl, by intro w hSw; clear hSw; go_simp; try with_reducible rfl⟩
                    try simp only [Act.put, List.setIfInBounds_toArray, List.set_cons_zero, List.set_cons_succ]
                    refine wpAnyH_take (i := 6) (oi := ?oi6x167) (v := ?v6x167) ?hi6x167 (by kernel_rfl) (by kernel_rfl) (by kernel_rfl) ?hq6x167 ?hy6x167 hHeld ?rest6x167
                    case hi6x167 => ((try simp only [List.getElem?_toArray, List.getElem?_cons_succ, List.getElem?_cons_zero]); (try rfl))
                    case hq6x167 => exact fun _ _ _ h => h
                    case hy6x167 => exact Or.inl ⟨by rfl, by intro w hSw; clear hSw; go_simp; try with_reducible rfl⟩
                    try simp only [Act.put, List.setIfInBounds_toArray, List.set_cons_zero, List.set_cons_succ]
                    refine wpAnyH_take (i := 7) (oi := ?oi7x168) (v := ?v7x168) ?hi7x168 (by kernel_rfl) (by kernel_rfl) (by kernel_rfl) ?hq7x168 ?hy7x168 hHeld ?rest7x168
                    case hi7x168 => ((try simp only [List.getElem?_toArray, List.getElem?_cons_succ, List.getElem?_cons_zero]); (try rfl))
                    case hq7x168 => exact fun _ _ _ h => h
                    case hy7x168 =>
                      refine' yieldsIf_load_mid ?_ 33 (.tmp 34) ?_ b (off + i * 8) ?_ (obsC p) _ ?_ Tryz.underlying33 ?_ info8
                      · rfl
                      · rfl
                      · rfl
                      · exact fun _ h => SR.rp h
                      · rfl
                    try simp only [Act.put, List.setIfInBounds_toArray, List.set_cons_zero, List.set_cons_succ]
                    refine wpAnyH_take (i := 8) (oi := ?oi8x169) (v := ?v8x169) ?hi8x169 (by kernel_rfl) (by kernel_rfl) (by kernel_rfl) ?hq8x169 ?hy8x169 hHeld ?rest8x169
                    case hi8x169 => ((try simp only [List.getElem?_toArray, List.getElem?_cons_succ, List.getElem?_cons_zero]); (try rfl))
                    case hq8x169 => exact fun _ _ _ h => h
                    case hy8x169 => exact Or.inl ⟨by rfl, by intro w hSw; clear hSw; go_simp; try with_reducible rfl⟩
                    try simp only [Act.put, List.setIfInBounds_toArray, List.set_cons_zero, List.set_cons_succ]
                    refine wpAnyH_take (i := 9) (oi := ?oi9x170) (v := ?v9x170) ?hi9x170 (by kernel_rfl) (by kernel_rfl) (by kernel_rfl) ?hq9x170 ?hy9x170 hHeld ?rest9x170
                    case hi9x170 => ((try simp only [List.getElem?_toArray, List.getElem?_cons_succ, List.getElem?_cons_zero]); (try rfl))
                    case hq9x170 => exact fun _ _ _ h => h
                    case hy9x170 => exact Or.inl ⟨by rfl, by intro w hSw; clear hSw; go_simp; try with_reducible rfl⟩
                    try simp only [Act.put, List.setIfInBounds_toArray, List.set_cons_zero, List.set_cons_succ]
                    refine wpAnyH_take (i := 10) (oi := ?oi10x171) (v := ?v10x171) ?hi10x171 (by kernel_rfl) (by kernel_rfl) (by kernel_rfl) ?hq10x171 ?hy10x171 hHeld ?rest10x171
                    case hi10x171 => ((try simp only [List.getElem?_toArray, List.getElem?_cons_succ, List.getElem?_cons_zero]); (try rfl))
                    case hq10x171 => exact fun _ _ _ h => h
                    case hy10x171 => exact Or.inl ⟨by rfl, by intro w hSw; clear hSw; go_simp; try with_reducible rfl⟩
                    try simp only [Act.put, List.setIfInBounds_toArray, List.set_cons_zero, List.set_cons_succ]
                    refine wpAnyH_take (i := 11) (oi := ?oi11x172) (v := ?v11x172) ?hi11x172 (by kernel_rfl) (by kernel_rfl) (by kernel_rfl) ?hq11x172 ?hy11x172 hHeld ?rest11x172
                    case hi11x172 => ((try simp only [List.getElem?_toArray, List.getElem?_cons_succ, List.getElem?_cons_zero]); (try rfl))
                    case hq11x172 => exact fun _ _ _ h => h
                    case hy11x172 =>
                      refine' yieldsIf_load_mid ?_ 33 (.tmp 38) ?_ b (off + k * 8) ?_ (obsC q) _ ?_ Tryz.underlying33 ?_ info8
                      · rfl
                      · rfl
                      · rfl
                      · exact fun _ h => SR.rq h
                      · rfl
                    try simp only [Act.put, List.setIfInBounds_toArray, List.set_cons_zero, List.set_cons_succ]
                    refine wpAnyH_ready (rs := [12]) (by kernel_rfl) (by simp) ?_
                    refine AllReadyH.cons rfl (fun K' hK => ?_) AllReadyH.nil
                    clear hHeld
                    go_simp
                    refine (TW.out _).mono ?_
                    rintro e wx ⟨rfl, hb⟩
                    replace X := Lib.hid (X.out.call hb)
                    clear hb TW
                    refine hK.out _ _ X.out (fun hHeld => ?_)
                    clear hK
                    try simp only [Act.put, List.setIfInBounds_toArray, List.set_cons_zero, List.set_cons_succ]
                    refine wpAnyH_take (i := 13) (oi := ?oi13x173) (v := ?v13x173) ?hi13x173 (by kernel_rfl) (by kernel_rfl) (by kernel_rfl) ?hq13x173 ?hy13x173 hHeld ?rest13x173
                    case hi13x173 => ((try simp only [List.getElem?_toArray, List.getElem?_cons_succ, List.getElem?_cons_zero]); (try rfl))
                    case hq13x173 => exact fun _ _ _ h => h
                    case hy13x173 => exact Or.inl ⟨by rfl, by intro w hSw; clear hSw; go_simp; try with_reducible rfl⟩
                    try simp only [Act.put, List.setIfInBounds_toArray, List.set_cons_zero, List.set_cons_succ]
                    refine wpAnyH_take (i := 14) (oi := ?oi14x174) (v := ?v14x174) ?hi14x174 (by kernel_rfl) (by kernel_rfl) (by kernel_rfl) ?hq14x174 ?hy14x174 hHeld ?rest14x174
                    case hi14x174 => ((try simp only [List.getElem?_toArray, List.getElem?_cons_succ, List.getElem?_cons_zero]); (try rfl))
                    case hq14x174 => exact fun _ _ _ h => h
                    case hy14x174 => exact Or.inl ⟨by rfl, by intro w hSw; clear hSw; go_simp; try with_reducible rfl⟩
                    try simp only [Act.put, List.setIfInBounds_toArray, List.set_cons_zero, List.set_cons_succ]
                    refine wpAnyH_take (i := 15) (oi := ?oi15x175) (v := ?v15x175) ?hi15x175 (by kernel_rfl) (by kernel_rfl) (by kernel_rfl) ?hq15x175 ?hy15x175 hHeld ?rest15x175
                    case hi15x175 => ((try simp only [List.getElem?_toArray, List.getElem?_cons_succ, List.getElem?_cons_zero]); (try rfl))
                    case hq15x175 => exact fun _ _ _ h => h
                    case hy15x175 => exact Or.inl ⟨by rfl, by intro w hSw; clear hSw; go_simp; try with_reducible rfl⟩
                    try simp only [Act.put, List.setIfInBounds_toArray, List.set_cons_zero, List.set_cons_succ]
                    refine wpAnyH_take (i := 16) (oi := ?oi16x176) (v := ?v16x176) ?hi16x176 (by kernel_rfl) (by kernel_rfl) (by kernel_rfl) ?hq16x176 ?hy16x176 hHeld ?rest16x176
                    case hi16x176 => ((try simp only [List.getElem?_toArray, List.getElem?_cons_succ, List.getElem?_cons_zero]); (try rfl))
                    case hq16x176 => exact fun _ _ _ h => h
                    case hy16x176 => exact Or.inl ⟨by rfl, by intro w hSw; clear hSw; go_simp; try with_reducible rfl⟩
                    try simp only [Act.put, List.setIfInBounds_toArray, List.set_cons_zero, List.set_cons_succ]
                    refine wpAnyH_take (i := 17) (oi := ?oi17x177) (v := ?v17x177) ?hi17x177 (by kernel_rfl) (by kernel_rfl) (by kernel_rfl) ?hq17x177 ?hy17x177 hHeld ?rest17x177
                    case hi17x177 => ((try simp only [List.getElem?_toArray, List.getElem?_cons_succ, List.getElem?_cons_zero]); (try rfl))
                    case hq17x177 => exact fun _ _ _ h => h
                    case hy17x177 => exact Or.inl ⟨by rfl, by intro w hSw; clear hSw; go_simp; try with_reducible rfl⟩
                    try simp only [Act.put, List.setIfInBounds_toArray, List.set_cons_zero, List.set_cons_succ]
                    refine wpAnyH_take (i := 18) (oi := ?oi18x178) (v := ?v18x178) ?hi18x178 (by kernel_rfl) (by kernel_rfl) (by kernel_rfl) ?hq18x178 ?hy18x178 hHeld ?rest18x178
                    case hi18x178 => ((try simp only [List.getElem?_toArray, List.getElem?_cons_succ, List.getElem?_cons_zero]); (try rfl))
                    case hq18x178 => exact fun _ _ _ h => h
                    case hy18x178 =>
                      refine' yieldsIf_load_mid ?_ 33 (.tmp 45) ?_ b (off + k * 8) ?_ (obsC q) _ ?_ Tryz.underlying33 ?_ info8
                      · rfl
                      · rfl
                      · rfl
                      · exact fun _ h => SR.rq h
                      · rfl
                    try simp only [Act.put, List.setIfInBounds_toArray, List.set_cons_zero, List.set_cons_succ]
                    refine wpAnyH_take (i := 19) (oi := ?oi19x179) (v := ?v19x179) ?hi19x179 (by kernel_rfl) (by kernel_rfl) (by kernel_rfl) ?hq19x179 ?hy19x179 hHeld ?rest19x179
                    case hi19x179 => ((try simp only [List.getElem?_toArray, List.getElem?_cons_succ, List.getElem?_cons_zero]); (try rfl))
                    case hq19x179 => exact fun _ _ _ h => h
                    case hy19x179 => exact Or.inl ⟨by rfl, by intro w hSw; clear hSw; go_simp; try with_reducible rfl⟩
                    try simp only [Act.put, List.setIfInBounds_toArray, List.set_cons_zero, List.set_cons_succ]
                    refine wpAnyH_take (i := 20) (oi := ?oi20x180) (v := ?v20x180) ?hi20x180 (by kernel_rfl) (by kernel_rfl) (by kernel_rfl) ?hq20x180 ?hy20x180 hHeld ?rest20x180
                    case hi20x180 => ((try simp only [List.getElem?_toArray, List.getElem?_cons_succ, List.getElem?_cons_zero]); (try rfl))
                    case hq20x180 => exact fun _ _ _ h => h
                    case hy20x180 => exact Or.inl ⟨by rfl, by intro w hSw; clear hSw; go_simp; try with_reducible rfl⟩
                    try simp only [Act.put, List.setIfInBounds_toArray, List.set_cons_zero, List.set_cons_succ]
                    refine wpAnyH_take (i := 21) (oi := ?oi21x181) (v := ?v21x181) ?hi21x181 (by kernel_rfl) (by kernel_rfl) (by kernel_rfl) ?hq21x181 ?hy21x181 hHeld ?rest21x181
                    case hi21x181 => ((try simp only [List.getElem?_toArray, List.getElem?_cons_succ, List.getElem?_cons_zero]); (try rfl))
                    case hq21x181 => exact fun _ _ _ h => h
                    case hy21x181 => exact Or.inl ⟨by rfl, by intro w hSw; clear hSw; go_simp; try with_reducible rfl⟩
                    try simp only [Act.put, List.setIfInBounds_toArray, List.set_cons_zero, List.set_cons_succ]
                    refine wpAnyH_take (i := 22) (oi := ?oi22x182) (v := ?v22x182) ?hi22x182 (by kernel_rfl) (by kernel_rfl) (by kernel_rfl) ?hq22x182 ?hy22x182 hHeld ?rest22x182
                    case hi22x182 => ((try simp only [List.getElem?_toArray, List.getElem?_cons_succ, List.getElem?_cons_zero]); (try rfl))
                    case hq22x182 => exact fun _ _ _ h => h
                    case hy22x182 =>
                      refine' yieldsIf_load_mid ?_ 33 (.tmp 49) ?_ b (off + i * 8) ?_ (obsC p) _ ?_ Tryz.underlying33 ?_ info8
                      · rfl
                      · rfl
                      · rfl
                      · exact fun _ h => SR.rp h
                      · rfl
                    try simp only [Act.put, List.setIfInBounds_toArray, List.set_cons_zero, List.set_cons_succ]
                    refine wpAnyH_ready (rs := [23]) (by kernel_rfl) (by simp) ?_
                    refine AllReadyH.cons rfl (fun K' hK => ?_) AllReadyH.nil
                    clear hHeld
                    go_simp
                    refine (BQ.out _).mono ?_
                    rintro e wx ⟨rfl, hb⟩
                    replace X := Lib.hid (X.out.call hb)
                    clear hb BQ
                    refine hK.out _ _ X.out (fun hHeld => ?_)
                    clear hK
                    try simp only [Act.put, List.setIfInBounds_toArray, List.set_cons_zero, List.set_cons_succ]
                    refine wpAnyH_take (i := 24) (oi := ?oi24x183) (v := ?v24x183) ?hi24x183 (by kernel_rfl) (by kernel_rfl) (by kernel_rfl) ?hq24x183 ?hy24x183 hHeld ?rest24x183
                    case hi24x183 => ((try simp only [List.getElem?_toArray, List.getElem?_cons_succ, List.getElem?_cons_zero]); (try rfl))
                    case hq24x183 => exact fun _ _ _ h => h
                    case hy24x183 => exact Or.inl ⟨by rfl, by intro w hSw; clear hSw; go_simp; try with_reducible rfl⟩
                    try simp only [Act.put, List.setIfInBounds_toArray, List.set_cons_zero, List.set_cons_succ]
                    refine wpAnyH_take (i := 25) (oi := ?oi25x184) (v := ?v25x184) ?hi25x184 (by kernel_rfl) (by kernel_rfl) (by kernel_rfl) ?hq25x184 ?hy25x184 hHeld ?rest25x184
                    case hi25x184 => ((try simp only [List.getElem?_toArray, List.getElem?_cons_succ, List.getElem?_cons_zero]); (try rfl))
                    case hq25x184 => exact fun _ _ _ h => h
                    case hy25x184 => exact Or.inl ⟨by rfl, by intro w hSw; clear hSw; go_simp; try with_reducible rfl⟩
                    try simp only [Act.put, List.setIfInBounds_toArray, List.set_cons_zero, List.set_cons_succ]
                    refine wpAnyH_take (i := 26) (oi := ?oi26x185) (v := ?v26x185) ?hi26x185 (by kernel_rfl) (by kernel_rfl) (by kernel_rfl) ?hq26x185 ?hy26x185 hHeld ?rest26x185
                    case hi26x185 => ((try simp only [List.getElem?_toArray, List.getElem?_cons_succ, List.getElem?_cons_zero]); (try rfl))
                    case hq26x185 => exact fun _ _ _ h => h
                    case hy26x185 => exact Or.inl ⟨by rfl, by intro w hSw; clear hSw; go_simp; try with_reducible rfl⟩
                    try simp only [Act.put, List.setIfInBounds_toArray, List.set_cons_zero, List.set_cons_succ]
                    refine wpAnyH_take (i := 27) (oi := ?oi27x186) (v := ?v27x186) ?hi27x186 (by kernel_rfl) (by kernel_rfl) (by kernel_rfl) ?hq27x186 ?hy27x186 hHeld ?rest27x186
                    case hi27x186 => ((try simp only [List.getElem?_toArray, List.getElem?_cons_succ, List.getElem?_cons_zero]); (try rfl))
                    case hq27x186 => exact fun _ _ _ h => h
                    case hy27x186 => exact Or.inl ⟨by rfl, by intro w hSw; clear hSw; go_simp; try with_reducible rfl⟩
                    try simp only [Act.put, List.setIfInBounds_toArray, List.set_cons_zero, List.set_cons_succ]
                    refine wpAnyH_take (i := 28) (oi := ?oi28x187) (v := ?v28x187) ?hi28x187 (by kernel_rfl) (by kernel_rfl) (by kernel_rfl) ?hq28x187 ?hy28x187 hHeld ?rest28x187
                    case hi28x187 => ((try simp only [List.getElem?_toArray, List.getElem?_cons_succ, List.getElem?_cons_zero]); (try rfl))
                    case hq28x187 => exact fun _ _ _ h => h
                    case hy28x187 => exact Or.inl ⟨by rfl, by intro w hSw; clear hSw; go_simp; try with_reducible rfl⟩
                    try simp only [Act.put, List.setIfInBounds_toArray, List.set_cons_zero, List.set_cons_succ]
                    refine wpAnyH_take (i := 29) (oi := ?oi29x188) (v := undef) ?hi29x188 (by kernel_rfl) (by kernel_rfl) (by kernel_rfl) ?hq29x188 ?hy29x188 hHeld ?rest29x188
                    case hi29x188 => ((try simp only [List.getElem?_toArray, List.getElem?_cons_succ, List.getElem?_cons_zero]); (try rfl))
                    case hq29x188 => exact fun _ _ _ h => h
                    case hy29x188 => exact Or.inr ⟨by rfl, rfl⟩
                    try simp only [Act.put, List.setIfInBounds_toArray, List.set_cons_zero, List.set_cons_succ]
                    refine wpAnyH_take (i := 30) (oi := ?oi30x189) (v := undef) ?hi30x189 (by kernel_rfl) (by kernel_rfl) (by kernel_rfl) ?hq30x189 ?hy30x189 hHeld ?rest30x189
                    case hi30x189 => ((try simp only [List.getElem?_toArray, List.getElem?_cons_succ, List.getElem?_cons_zero]); (try rfl))
                    case hq30x189 => exact fun _ _ _ h => h
                    case hy30x189 => exact Or.inr ⟨by rfl, rfl⟩
                    try simp only [Act.put, List.setIfInBounds_toArray, List.set_cons_zero, List.set_cons_succ]
                    refine wpAnyH_take (i := 31) (oi := ?oi31x190) (v := undef) ?hi31x190 (by kernel_rfl) (by kernel_rfl) (by kernel_rfl) ?hq31x190 ?hy31x190 hHeld ?rest31x190
                    case hi31x190 => ((try simp only [List.getElem?_toArray, List.getElem?_cons_succ, List.getElem?_cons_zero]); (try rfl))
                    case hq31x190 => exact fun _ _ _ h => h
                    case hy31x190 => exact Or.inr ⟨by rfl, rfl⟩
                    try simp only [Act.put, List.setIfInBounds_toArray, List.set_cons_zero, List.set_cons_succ]
                    refine wpAnyH_take (i := 32) (oi := ?oi32x191) (v := undef) ?hi32x191 (by kernel_rfl) (by kernel_rfl) (by kernel_rfl) ?hq32x191 ?hy32x191 hHeld ?rest32x191
                    case hi32x191 => ((try simp only [List.getElem?_toArray, List.getElem?_cons_succ, List.getElem?_cons_zero]); (try rfl))
                    case hq32x191 => exact fun _ _ _ h => h
                    case hy32x191 => exact Or.inr ⟨by rfl, rfl⟩
                    try simp only [Act.put, List.setIfInBounds_toArray, List.set_cons_zero, List.set_cons_succ]
                    refine wpAnyH_take (i := 33) (oi := ?oi33x192) (v := undef) ?hi33x192 (by kernel_rfl) (by kernel_rfl) (by kernel_rfl) ?hq33x192 ?hy33x192 hHeld ?rest33x192
                    case hi33x192 => ((try simp only [List.getElem?_toArray, List.getElem?_cons_succ, List.getElem?_cons_zero]); (try rfl))
                    case hq33x192 => exact fun _ _ _ h => h
                    case hy33x192 => exact Or.inr ⟨by rfl, rfl⟩
                    try simp only [Act.put, List.setIfInBounds_toArray, List.set_cons_zero, List.set_cons_succ]
                    refine wpAnyH_take (i := 34) (oi := ?oi34x193) (v := undef) ?hi34x193 (by kernel_rfl) (by kernel_rfl) (by kernel_rfl) ?hq34x193 ?hy34x193 hHeld ?rest34x193
                    case hi34x193 => ((try simp only [List.getElem?_toArray, List.getElem?_cons_succ, List.getElem?_cons_zero]); (try rfl))
                    case hq34x193 => exact fun _ _ _ h => h
                    case hy34x193 => exact Or.inr ⟨by rfl, rfl⟩
                    try simp only [Act.put, List.setIfInBounds_toArray, List.set_cons_zero, List.set_cons_succ]
                    refine wpAnyH_take (i := 35) (oi := ?oi35x194) (v := undef) ?hi35x194 (by kernel_rfl) (by kernel_rfl) (by kernel_rfl) ?hq35x194 ?hy35x194 hHeld ?rest35x194
                    case hi35x194 => ((try simp only [List.getElem?_toArray, List.getElem?_cons_succ, List.getElem?_cons_zero]); (try rfl))
                    case hq35x194 => exact fun _ _ _ h => h
                    case hy35x194 => exact Or.inr ⟨by rfl, rfl⟩
                    try simp only [Act.put, List.setIfInBounds_toArray, List.set_cons_zero, List.set_cons_succ]
                    refine wpAnyH_take (i := 36) (oi := ?oi36x195) (v := undef) ?hi36x195 (by kernel_rfl) (by kernel_rfl) (by kernel_rfl) ?hq36x195 ?hy36x195 hHeld ?rest36x195
                    case hi36x195 => ((try simp only [List.getElem?_toArray, List.getElem?_cons_succ, List.getElem?_cons_zero]); (try rfl))
                    case hq36x195 => exact fun _ _ _ h => h
                    case hy36x195 => exact Or.inr ⟨by rfl, rfl⟩
                    try simp only [Act.put, List.setIfInBounds_toArray, List.set_cons_zero, List.set_cons_succ]
                    refine wpAnyH_take (i := 37) (oi := ?oi37x196) (v := undef) ?hi37x196 (by kernel_rfl) (by kernel_rfl) (by kernel_rfl) ?hq37x196 ?hy37x196 hHeld ?rest37x196
                    case hi37x196 => ((try simp only [List.getElem?_toArray, List.getElem?_cons_succ, List.getElem?_cons_zero]); (try rfl))
                    case hq37x196 => exact fun _ _ _ h => h
                    case hy37x196 => exact Or.inr ⟨by rfl, rfl⟩
                    try simp only [Act.put, List.setIfInBounds_toArray, List.set_cons_zero, List.set_cons_succ]
                    refine wpAnyH_take (i := 38) (oi := ?oi38x197) (v := undef) ?hi38x197 (by kernel_rfl) (by kernel_rfl) (by kernel_rfl) ?hq38x197 ?hy38x197 hHeld ?rest38x197
                    case hi38x197 => ((try simp only [List.getElem?_toArray, List.getElem?_cons_succ, List.getElem?_cons_zero]); (try rfl))
                    case hq38x197 => exact fun _ _ _ h => h
                    case hy38x197 => exact Or.inr ⟨by rfl, rfl⟩
                    try simp only [Act.put, List.setIfInBounds_toArray, List.set_cons_zero, List.set_cons_succ]
                    refine wpAnyH_take (i := 39) (oi := ?oi39x198) (v := ?v39x198) ?hi39x198 (by kernel_rfl) (by kernel_rfl) (by kernel_rfl) ?hq39x198 ?hy39x198 hHeld ?rest39x198
                    case hi39x198 => ((try simp only [List.getElem?_toArray, List.getElem?_cons_succ, List.getElem?_cons_zero]); (try rfl))
                    case hq39x198 => exact fun _ _ _ h => h
                    case hy39x198 => exact Or.inl ⟨by rfl, by intro w hSw; clear hSw; go_simp; try with_reducible rfl⟩
                    try simp only [Act.put, List.setIfInBounds_toArray, List.set_cons_zero, List.set_cons_succ]
                    refine wpAnyH_take (i := 40) (oi := ?oi40x199) (v := ?v40x199) ?hi40x199 (by kernel_rfl) (by kernel_rfl) (by kernel_rfl) ?hq40x199 ?hy40x199 hHeld ?rest40x199
                    case hi40x199 => ((try simp only [List.getElem?_toArray, List.getElem?_cons_succ, List.getElem?_cons_zero]); (try rfl))
                    case hq40x199 => exact fun _ _ _ h => h
                    case hy40x199 => exact Or.inl ⟨by rfl, by intro w hSw; clear hSw; go_simp; try with_reducible rfl⟩
                    try simp only [Act.put, List.setIfInBounds_toArray, List.set_cons_zero, List.set_cons_succ]
                    refine wpAnyH_take (i := 41) (oi := ?oi41x200) (v := ?v41x200) ?hi41x200 (by kernel_rfl) (by kernel_rfl) (by kernel_rfl) ?hq41x200 ?hy41x200 hHeld ?rest41x200
                    case hi41x200 => ((try simp only [List.getElem?_toArray, List.getElem?_cons_succ, List.getElem?_cons_zero]); (try rfl))
                    case hq41x200 => exact fun _ _ _ h => h
                    case hy41x200 => exact Or.inl ⟨by rfl, by intro w hSw; clear hSw; go_simp; try with_reducible rfl⟩
                    try simp only [Act.put, List.setIfInBounds_toArray, List.set_cons_zero, List.set_cons_succ]
                    refine wpAnyH_done (by kernel_rfl) ?_ _
                    clear hHeld
                    have X2 := Lib.hid X.out.two
                    have X3 := Lib.hid X.out.below
                    clear X
                    go_wp2_with fail
                    go_roundw
                    case rel => exact ⟨k + 1, by omega, by go_num, DD.out, X2, X3⟩
                    case measure => simp [intOf]; omega
              · rw [decide_eq_false e2] at TW
                have DD := Lib.hid (KEEP.out (fun h => e2 h.2.1))
                clear BQ BP BEAT KEEP e1 e2
                go_upto_region 13 with fail
                refine wp_region_held_drew (S := fun wx => SR w vk (keptTo l i) vd (dropTo l i) b off i k p q wx) (by kernel_rfl) X.out (fun hHeld => ?_)
                refine wpAnyH_take (i := 0) (oi := ?oi0x201) (v := ?v0x201) ?hi0x201 (by kernel_rfl) (by kernel_rfl) (by kernel_rfl) ?hq0x201 ?hy0x201 hHeld ?rest0x201
                case hi0x201 => ((try simp only [List.getElem?_toArray, List.getElem?_cons_succ, List.getElem?_cons_zero]); (try rfl))
                case hq0x201 => exact fun _ _ _ h => h
                case hy0x201 => exact Or.inl ⟨by rfl, by intro w hSw; clear hSw; go_simp; try with_reducible rfl⟩
                try simp only [Act.put, List.setIfInBounds_toArray, List.set_cons_zero, List.set_cons_succ]
                refine wpAnyH_take (i := 1) (oi := ?oi1x202) (v := ?v1x202) ?hi1x202 (by kernel_rfl) (by kernel_rfl) (by kernel_rfl) ?hq1x202 ?hy1x202 hHeld ?rest1x202
                case hi1x202 => ((try simp only [List.getElem?_toArray, List.getElem?_cons_succ, List.getElem?_cons_zero]); (try rfl))
                case hq1x202 => exact fun _ _ _ h => h
                case hy1x202 => exact Or.inl ⟨by rfl, by intro w hSw; clear hSw; go_simp; try with_reducible rfl⟩
                try simp only [Act.put, List.setIfInBounds_toArray, List.set_cons_zero, List.set_cons_succ]
                refine wpAnyH_take (i := 2) (oi := ?oi2x203) (v := ?v2x203) ?hi2x203 (by kernel_rfl) (by kernel_rfl) (by kernel_rfl) ?hq2x203 ?hy2x203 hHeld ?rest2x203
                case hi2x203 => ((try simp only [List.getElem?_toArray, List.getElem?_cons_succ, List.getElem?_cons_zero]); (try rfl))
                case hq2x203 => exact fun _ _ _ h => h
                case hy2x203 => exact Or.inl ⟨by rfl, by intro w hSw; clear hSw; go_simp; try with_reducible rfl⟩
                try simp only [Act.put, List.setIfInBounds_toArray, List.set_cons_zero, List.set_cons_succ]
                refine wpAnyH_take (i := 3) (oi := ?oi3x204) (v := ?v3x204) ?hi3x204 (by kernel_rfl) (by kernel_rfl) (by kernel_rfl) ?hq3x204 ?hy3x204 hHeld ?rest3x204
                case hi3x204 => ((try simp only [List.getElem?_toArray, List.getElem?_cons_succ, List.getElem?_cons_zero]); (try rfl))
                case hq3x204 => exact fun _ _ _ h => h
                case hy3x204 => exact Or.inl ⟨by rfl, by intro w hSw; clear hSw; go_simp; try with_reducible rfl⟩
                try simp only [Act.put, List.setIfInBounds_toArray, List.set_cons_zero, List.set_cons_succ]
                refine wpAnyH_take (i := 4) (oi := ?oi4x205) (v := ?v4x205) ?hi4x205 (by kernel_rfl) (by kernel_rfl) (by kernel_rfl) ?hq4x205 ?hy4x205 hHeld ?rest4x205
                case hi4x205 => ((try simp only [List.getElem?_toArray, List.getElem?_cons_succ, List.getElem?_cons_zero]); (try rfl))
                case hq4x205 => exact fun _ _ _ h => h
                case hy4x205 => exact Or.inl ⟨by rfl, by intro w hSw; clear hSw; go_simp; try with_reducible rfl⟩
                try simp only [Act.put, List.setIfInBounds_toArray, List.set_cons_zero, List.set_cons_succ]
                refine wpAnyH_take (i := 5) (oi := ?oi5x206) (v := ?v5x206) ?hi5x206 (by kernel_rfl) (by kernel_rfl) (by kernel_rfl) ?hq5x206 ?hy5x206 hHeld ?rest5x206
                case hi5x206 => ((try simp only [List.getElem?_toArray, List.getElem?_cons_succ, List.getElem?_cons_zero]); (try rfl))
                case hq5x206 => exact fun _ _ _ h => h
                case hy5x206 => exact Or.inl ⟨by rfl, by intro w hSw; clear hSw; go_simp; try with_reducible rfl⟩
                try simp only [Act.put, List.setIfInBounds_toArray, List.set_cons_zero, List.set_cons_succ]
                refine wpAnyH_take (i := 6) (oi := ?oi6x207) (v := ?v6x207) ?hi6x207 (by kernel_rfl) (by kernel_rfl) (by kernel_rfl) ?hq6x207 ?hy6x207 hHeld ?rest6x207
                case hi6x207 => ((try simp only [List.getElem?_toArray, List.getElem?_cons_succ, List.getElem?_cons_zero]); (try rfl))
                case hq6x207 => exact fun _ _ _ h => h
                case hy6x207 => exact Or.inl ⟨by rfl, by intro w hSw; clear hSw; go_simp; try with_reducible rfl⟩
                try simp only [Act.put, List.setIfInBounds_toArray, List.set_cons_zero, List.set_cons_succ]
                refine wpAnyH_take (i := 7) (oi := ?oi7x208) (v := ?v7x208) ?hi7x208 (by kernel_rfl) (by kernel_rfl) (by kernel_rfl) ?hq7x208 ?hy7x208 hHeld ?rest7x208
                case hi7x208 => ((try simp only [List.getElem?_toArray, List.getElem?_cons_succ, List.getElem?_cons_zero]); (try rfl))
                case hq7x208 => exact fun _ _ _ h => h
                case hy7x208 =>
                  refine' yieldsIf_load_mid ?_ 33 (.tmp 34) ?_ b (off + i * 8) ?_ (obsC p) _ ?_ Tryz.underlying33 ?_ info8
                  · rfl
                  · rfl
                  · rfl
                  · exact fun _ h => SR.rp h
                  · rfl
                try simp only [Act.put, List.setIfInBounds_toArray, List.set_cons_zero, List.set_cons_succ]
                refine wpAnyH_take (i := 8) (oi := ?oi8x209) (v := ?v8x209) ?hi8x209 (by kernel_rfl) (by kernel_rfl) (by kernel_rfl) ?hq8x209 ?hy8x209 hHeld ?rest8x209
                case hi8x209 => ((try simp only [List.getElem?_toArray, List.getElem?_cons_succ, List.getElem?_cons_zero]); (try rfl))
                case hq8x209 => exact fun _ _ _ h => h
                case hy8x209 => exact Or.inl ⟨by rfl, by intro w hSw; clear hSw; go_simp; try with_reducible rfl⟩
                try simp only [Act.put, List.setIfInBounds_toArray, List.set_cons_zero, List.set_cons_succ]
                refine wpAnyH_take (i := 9) (oi := ?oi9x210) (v := ?v9x210) ?hi9x210 (by kernel_rfl) (by kernel_rfl) (by kernel_rfl) ?hq9x210 ?hy9x210 hHeld ?rest9x210
                case hi9x210 => ((try simp only [List.getElem?_toArray, List.getElem?_cons_succ, List.getElem?_cons_zero]); (try rfl))
                case hq9x210 => exact fun _ _ _ h => h
                case hy9x210 => exact Or.inl ⟨by rfl, by intro w hSw; clear hSw; go_simp; try with_reducible rfl⟩
                try simp only [Act.put, List.setIfInBounds_toArray, List.set_cons_zero, List.set_cons_succ]
                refine wpAnyH_take (i := 10) (oi := ?oi10x211) (v := ?v10x211) ?hi10x211 (by kernel_rfl) (by kernel_rfl) (by kernel_rfl) ?hq10x211 ?hy10x211 hHeld ?rest10x211
                case hi10x211 => ((try simp only [List.getElem?_toArray, List.getElem?_cons_succ, List.getElem?_cons_zero]); (try rfl))
                case hq10x211 => exact fun _ _ _ h => h
                case hy10x211 => exact Or.inl ⟨by rfl, by intro w hSw; clear hSw; go_simp; try with_reducible rfl⟩
                try simp only [Act.put, List.setIfInBounds_toArray, List.set_cons_zero, List.set_cons_succ]
                refine wpAnyH_take (i := 11) (oi := ?oi11x212) (v := ?v11x212) ?hi11x212 (by kernel_rfl) (by kernel_rfl) (by kernel_rfl) ?hq11x212 ?hy11x212 hHeld ?rest11x212
                case hi11x212 => ((try simp only [List.getElem?_toArray, List.getElem?_cons_succ, List.getElem?_cons_zero]); (try rfl))
                case hq11x212 => exact fun _ _ _ h => h
                case hy11x212 =>
                  refine' yieldsIf_load_mid ?_ 33 (.tmp 38) ?_ b (off + k * 8) ?_ (obsC q) _ ?_ Tryz.underlying33 ?_ info8
                  · rfl
                  · rfl
                  · rfl
                  · exact fun _ h => SR.rq h
                  · rfl
                try simp only [Act.put, List.setIfInBounds_toArray, List.set_cons_zero, List.set_cons_succ]
                refine wpAnyH_ready (rs := [12]) (by kernel_rfl) (by simp) ?_
                refine AllReadyH.cons rfl (fun K' hK => ?_) AllReadyH.nil
                clear hHeld
                go_simp
                refine (TW.out _).mono ?_
                rintro e wx ⟨rfl, hb⟩
                replace X := Lib.hid (X.out.call hb)
                clear hb TW
                refine hK.out _ _ X.out (fun hHeld => ?_)
                clear hK
                try simp only [Act.put, List.setIfInBounds_toArray, List.set_cons_zero, List.set_cons_succ]
                refine wpAnyH_take (i := 13) (oi := ?oi13x213) (v := ?v13x213) ?hi13x213 (by kernel_rfl) (by kernel_rfl) (by kernel_rfl) ?hq13x213 ?hy13x213 hHeld ?rest13x213
                case hi13x213 => ((try simp only [List.getElem?_toArray, List.getElem?_cons_succ, List.getElem?_cons_zero]); (try rfl))
                case hq13x213 => exact fun _ _ _ h => h
                case hy13x213 => exact Or.inl ⟨by rfl, by intro w hSw; clear hSw; go_simp; try with_reducible rfl⟩
                try simp only [Act.put, List.setIfInBounds_toArray, List.set_cons_zero, List.set_cons_succ]
                refine wpAnyH_take (i := 14) (oi := ?oi14x214) (v := ?v14x214) ?hi14x214 (by kernel_rfl) (by kernel_rfl) (by kernel_rfl) ?hq14x214 ?hy14x214 hHeld ?rest14x214
                case hi14x214 => ((try simp only [List.getElem?_toArray, List.getElem?_cons_succ, List.getElem?_cons_zero]); (try rfl))
                case hq14x214 => exact fun _ _ _ h => h
                case hy14x214 => exact Or.inl ⟨by rfl, by intro w hSw; clear hSw; go_simp; try with_reducible rfl⟩
                try simp only [Act.put, List.setIfInBounds_toArray, List.set_cons_zero, List.set_cons_succ]
                refine wpAnyH_take (i := 15) (oi := ?oi15x215) (v := undef) ?hi15x215 (by kernel_rfl) (by kernel_rfl) (by kernel_rfl) ?hq15x215 ?hy15x215 hHeld ?rest15x215
                case hi15x215 => ((try simp only [List.getElem?_toArray, List.getElem?_cons_succ, List.getElem?_cons_zero]); (try rfl))
                case hq15x215 => exact fun _ _ _ h => h
                case hy15x215 => exact Or.inr ⟨by rfl, rfl⟩
                try simp only [Act.put, List.setIfInBounds_toArray, List.set_cons_zero, List.set_cons_succ]
                refine wpAnyH_take (i := 16) (oi := ?oi16x216) (v := undef) ?hi16x216 (by kernel_rfl) (by kernel_rfl) (by kernel_rfl) ?hq16x216 ?hy16x216 hHeld ?rest16x216
                case hi16x216 => ((try simp only [List.getElem?_toArray, List.getElem?_cons_succ, List.getElem?_cons_zero]); (try rfl))
                case hq16x216 => exact fun _ _ _ h => h
                case hy16x216 => exact Or.inr ⟨by rfl, rfl⟩
                try simp only [Act.put, List.setIfInBounds_toArray, List.set_cons_zero, List.set_cons_succ]
                refine wpAnyH_take (i := 17) (oi := ?oi17x217) (v := undef) ?hi17x217 (by kernel_rfl) (by kernel_rfl) (by kernel_rfl) ?hq17x217 ?hy17x217 hHeld ?rest17x217
                case hi17x217 => ((try simp only [List.getElem?_toArray, List.getElem?_cons_succ, List.getElem?_cons_zero]); (try rfl))
                case hq17x217 => exact fun _ _ _ h => h
                case hy17x217 => exact Or.inr ⟨by rfl, rfl⟩
                try simp only [Act.put, List.setIfInBounds_toArray, List.set_cons_zero, List.set_cons_succ]
                refine wpAnyH_take (i := 18) (oi := ?oi18x218) (v := undef) ?hi18x218 (by kernel_rfl) (by kernel_rfl) (by kernel_rfl) ?hq18x218 ?hy18x218 hHeld ?rest18x218
                case hi18x218 => ((try simp only [List.getElem?_toArray, List.getElem?_cons_succ, List.getElem?_cons_zero]); (try rfl))
                case hq18x218 => exact fun _ _ _ h => h
                case hy18x218 => exact Or.inr ⟨by rfl, rfl⟩
                try simp only [Act.put, List.setIfInBounds_toArray, List.set_cons_zero, List.set_cons_succ]
                refine wpAnyH_take (i := 19) (oi := ?oi19x219) (v := undef) ?hi19x219 (by kernel_rfl) (by kernel_rfl) (by kernel_rfl) ?hq19x219 ?hy19x219 hHeld ?rest19x219
                case hi19x219 => ((try simp only [List.getElem?_toArray, List.getElem?_cons_succ, List.getElem?_cons_zero]); (try rfl))
                case hq19x219 => exact fun _ _ _ h => h
                case hy19x219 => exact Or.inr ⟨by rfl, rfl⟩
                try simp only [Act.put, List.setIfInBounds_toArray, List.set_cons_zero, List.set_cons_succ]
                refine wpAnyH_take (i := 20) (oi := ?oi20x220) (v := undef) ?hi20x220 (by kernel_rfl) (by kernel_rfl) (by kernel_rfl) ?hq20x220 ?hy20x220 hHeld ?rest20x220
                case hi20x220 => ((try simp only [List.getElem?_toArray, List.getElem?_cons_succ, List.getElem?_cons_zero]); (try rfl))
                case hq20x220 => exact fun _ _ _ h => h
                case hy20x220 => exact Or.inr ⟨by rfl, rfl⟩
                try simp only [Act.put, List.setIfInBounds_toArray, List.set_cons_zero, List.set_cons_succ]
                refine wpAnyH_take (i := 21) (oi := ?oi21x221) (v := undef) ?hi21x221 (by kernel_rfl) (by kernel_rfl) (by kernel_rfl) ?hq21x221 ?hy21x221 hHeld ?rest21x221
                case hi21x221 => ((try simp only [List.getElem?_toArray, List.getElem?_cons_succ, List.getElem?_cons_zero]); (try rfl))
                case hq21x221 => exact fun _ _ _ h => h
                case hy21x221 => exact Or.inr ⟨by rfl, rfl⟩
                try simp only [Act.put, List.setIfInBounds_toArray, List.set_cons_zero, List.set_cons_succ]
                refine wpAnyH_take (i := 22) (oi := ?oi22x222) (v := undef) ?hi22x222 (by kernel_rfl) (by kernel_rfl) (by kernel_rfl) ?hq22x222 ?hy22x222 hHeld ?rest22x222
                case hi22x222 => ((try simp only [List.getElem?_toArray, List.getElem?_cons_succ, List.getElem?_cons_zero]); (try rfl))
                case hq22x222 => exact fun _ _ _ h => h
                case hy22x222 => exact Or.inr ⟨by rfl, rfl⟩
                try simp only [Act.put, List.setIfInBounds_toArray, List.set_cons_zero, List.set_cons_succ]
                refine wpAnyH_take (i := 23) (oi := ?oi23x223) (v := undef) ?hi23x223 (by kernel_rfl) (by kernel_rfl) (by kernel_rfl) ?hq23x223 ?hy23x223 hHeld ?rest23x223
                case hi23x223 => ((try simp only [List.getElem?_toArray, List.getElem?_cons_succ, List.getElem?_cons_zero]); (try rfl))
                case hq23x223 => exact fun _ _ _ h => h
                case hy23x223 => exact Or.inr ⟨by rfl, rfl⟩
                try simp only [Act.put, List.setIfInBounds_toArray, List.set_cons_zero, List.set_cons_succ]
                refine wpAnyH_take (i := 24) (oi := ?oi24x224) (v := undef) ?hi24x224 (by kernel_rfl) (by kernel_rfl) (by kernel_rfl) ?hq24x224 ?hy24x224 hHeld ?rest24x224
                case hi24x224 => ((try simp only [List.getElem?_toArray, List.getElem?_cons_succ, List.getElem?_cons_zero]); (try rfl))
                case hq24x224 => exact fun _ _ _ h => h
                case hy24x224 => exact Or.inr ⟨by rfl, rfl⟩
                try simp only [Act.put, List.setIfInBounds_toArray, List.set_cons_zero, List.set_cons_succ]
                refine wpAnyH_take (i := 25) (oi := ?oi25x225) (v := undef) ?hi25x225 (by kernel_rfl) (by kernel_rfl) (by kernel_rfl) ?hq25x225 ?hy25x225 hHeld ?rest25x225
                case hi25x225 => ((try simp only [List.getElem?_toArray, List.getElem?_cons_succ, List.getElem?_cons_zero]); (try rfl))
                case hq25x225 => exact fun _ _ _ h => h
                case hy25x225 => exact Or.inr ⟨by rfl, rfl⟩
                try simp only [Act.put, List.setIfInBounds_toArray, List.set_cons_zero, List.set_cons_succ]
                refine wpAnyH_take (i := 26) (oi := ?oi26x226) (v := undef) ?hi26x226 (by kernel_rfl) (by kernel_rfl) (by kernel_rfl) ?hq26x226 ?hy26x226 hHeld ?rest26x226
                case hi26x226 => ((try simp only [List.getElem?_toArray, List.getElem?_cons_succ, List.getElem?_cons_zero]); (try rfl))
                case hq26x226 => exact fun _ _ _ h => h
                case hy26x226 => exact Or.inr ⟨by rfl, rfl⟩
                try simp only [Act.put, List.setIfInBounds_toArray, List.set_cons_zero, List.set_cons_succ]
                refine wpAnyH_take (i := 27) (oi := ?oi27x227) (v := undef) ?hi27x227 (by kernel_rfl) (by kernel_rfl) (by kernel_rfl) ?hq27x227 ?hy27x227 hHeld ?rest27x227
                case hi27x227 => ((try simp only [List.getElem?_toArray, List.getElem?_cons_succ, List.getElem?_cons_zero]); (try rfl))
                case hq27x227 => exact fun _ _ _ h => h
                case hy27x227 => exact Or.inr ⟨by rfl, rfl⟩
                try simp only [Act.put, List.setIfInBounds_toArray, List.set_cons_zero, List.set_cons_succ]
                refine wpAnyH_take (i := 28) (oi := ?oi28x228) (v := undef) ?hi28x228 (by kernel_rfl) (by kernel_rfl) (by kernel_rfl) ?hq28x228 ?hy28x228 hHeld ?rest28x228
                case hi28x228 => ((try simp only [List.getElem?_toArray, List.getElem?_cons_succ, List.getElem?_cons_zero]); (try rfl))
                case hq28x228 => exact fun _ _ _ h => h
                case hy28x228 => exact Or.inr ⟨by rfl, rfl⟩
                try simp only [Act.put, List.setIfInBounds_toArray, List.set_cons_zero, List.set_cons_succ]
                refine wpAnyH_take (i := 29) (oi := ?oi29x229) (v := undef) ?hi29x229 (by kernel_rfl) (by kernel_rfl) (by kernel_rfl) ?hq29x229 ?hy29x229 hHeld ?rest29x229
                case hi29x229 => ((try simp only [List.getElem?_toArray, List.getElem?_cons_succ, List.getElem?_cons_zero]); (try rfl))
                case hq29x229 => exact fun _ _ _ h => h
                case hy29x229 => exact Or.inr ⟨by rfl, rfl⟩
                try simp only [Act.put, List.setIfInBounds_toArray, List.set_cons_zero, List.set_cons_succ]
                refine wpAnyH_take (i := 30) (oi := ?oi30x230) (v := undef) ?hi30x230 (by kernel_rfl) (by kernel_rfl) (by kernel_rfl) ?hq30x230 ?hy30x230 hHeld ?rest30x230
                case hi30x230 => ((try simp only [List.getElem?_toArray, List.getElem?_cons_succ, List.getElem?_cons_zero]); (try rfl))
                case hq30x230 => exact fun _ _ _ h => h
                case hy30x230 => exact Or.inr ⟨by rfl, rfl⟩
                try simp only [Act.put, List.setIfInBounds_toArray, List.set_cons_zero, List.set_cons_succ]
                refine wpAnyH_take (i := 31) (oi := ?oi31x231) (v := undef) ?hi31x231 (by kernel_rfl) (by kernel_rfl) (by kernel_rfl) ?hq31x231 ?hy31x231 hHeld ?rest31x231
                case hi31x231 => ((try simp only [List.getElem?_toArray, List.getElem?_cons_succ, List.getElem?_cons_zero]); (try rfl))
                case hq31x231 => exact fun _ _ _ h => h
                case hy31x231 => exact Or.inr ⟨by rfl, rfl⟩
                try simp only [Act.put, List.setIfInBounds_toArray, List.set_cons_zero, List.set_cons_succ]
                refine wpAnyH_take (i := 32) (oi := ?oi32x232) (v := undef) ?hi32x232 (by kernel_rfl) (by kernel_rfl) (by kernel_rfl) ?hq32x232 ?hy32x232 hHeld ?rest32x232
                case hi32x232 => ((try simp only [List.getElem?_toArray, List.getElem?_cons_succ, List.getElem?_cons_zero]); (try rfl))
                case hq32x232 => exact fun _ _ _ h => h
                case hy32x232 => exact Or.inr ⟨by rfl, rfl⟩
                try simp only [Act.put, List.setIfInBounds_toArray, List.set_cons_zero, List.set_cons_succ]
                refine wpAnyH_take (i := 33) (oi := ?oi33x233) (v := undef) ?hi33x233 (by kernel_rfl) (by kernel_rfl) (by kernel_rfl) ?hq33x233 ?hy33x233 hHeld ?rest33x233
                case hi33x233 => ((try simp only [List.getElem?_toArray, List.getElem?_cons_succ, List.getElem?_cons_zero]); (try rfl))
                case hq33x233 => exact fun _ _ _ h => h
                case hy33x233 => exact Or.inr ⟨by rfl, rfl⟩
                try simp only [Act.put, List.setIfInBounds_toArray, List.set_cons_zero, List.set_cons_succ]
                refine wpAnyH_take (i := 34) (oi := ?oi34x234) (v := undef) ?hi34x234 (by kernel_rfl) (by kernel_rfl) (by kernel_rfl) ?hq34x234 ?hy34x234 hHeld ?rest34x234
                case hi34x234 => ((try simp only [List.getElem?_toArray, List.getElem?_cons_succ, List.getElem?_cons_zero]); (try rfl))
                case hq34x234 => exact fun _ _ _ h => h
                case hy34x234 => exact Or.inr ⟨by rfl, rfl⟩
                try simp only [Act.put, List.setIfInBounds_toArray, List.set_cons_zero, List.set_cons_succ]
                refine wpAnyH_take (i := 35) (oi := ?oi35x235) (v := undef) ?hi35x235 (by kernel_rfl) (by kernel_rfl) (by kernel_rfl) ?hq35x235 ?hy35x235 hHeld ?rest35x235
                case hi35x235 => ((try simp only [List.getElem?_toArray, List.getElem?_cons_succ, List.getElem?_cons_zero]); (try rfl))
                case hq35x235 => exact fun _ _ _ h => h
                case hy35x235 => exact Or.inr ⟨by rfl, rfl⟩
                try simp only [Act.put, List.setIfInBounds_toArray, List.set_cons_zero, List.set_cons_succ]
                refine wpAnyH_take (i := 36) (oi := ?oi36x236) (v := undef) ?hi36x236 (by kernel_rfl) (by kernel_rfl) (by kernel_rfl) ?hq36x236 ?hy36x236 hHeld ?rest36x236
                case hi36x236 => ((try simp only [List.getElem?_toArray, List.getElem?_cons_succ, List.getElem?_cons_zero]); (try rfl))
                case hq36x236 => exact fun _ _ _ h => h
                case hy36x236 => exact Or.inr ⟨by rfl, rfl⟩
                try simp only [Act.put, List.setIfInBounds_toArray, List.set_cons_zero, List.set_cons_succ]
                refine wpAnyH_take (i := 37) (oi := ?oi37x237) (v := undef) ?hi37x237 (by kernel_rfl) (by kernel_rfl) (by kernel_rfl) ?hq37x237 ?hy37x237 hHeld ?rest37x237
                case hi37x237 => ((try simp only [List.getElem?_toArray, List.getElem?_cons_succ, List.getElem?_cons_zero]); (try rfl))
                case hq37x237 => exact fun _ _ _ h => h
                case hy37x237 => exact Or.inr ⟨by rfl, rfl⟩
                try simp only [Act.put, List.setIfInBounds_toArray, List.set_cons_zero, List.set_cons_succ]
                refine wpAnyH_take (i := 38) (oi := ?oi38x238) (v := undef) ?hi38x238 (by kernel_rfl) (by kernel_rfl) (by kernel_rfl) ?hq38x238 ?hy38x238 hHeld ?rest38x238
                case hi38x238 => ((try simp only [List.getElem?_toArray, List.getElem?_cons_succ, List.getElem?_cons_zero]); (try rfl))
                case hq38x238 => exact fun _ _ _ h => h
                case hy38x238 => exact Or.inr ⟨by rfl, rfl⟩
                try simp only [Act.put, List.setIfInBounds_toArray, List.set_cons_zero, List.set_cons_succ]
                refine wpAnyH_take (i := 39) (oi := ?oi39x239) (v := undef) ?hi39x239 (by kernel_rfl) (by kernel_rfl) (by kernel_rfl) ?hq39x239 ?hy39x239 hHeld ?rest39x239
                case hi39x239 => ((try simp only [List.getElem?_toArray, List.getElem?_cons_succ, List.getElem?_cons_zero]); (try rfl))
                case hq39x239 => exact fun _ _ _ h => h
                case hy39x239 => exact Or.inr ⟨by rfl, rfl⟩
                try simp only [Act.put, List.setIfInBounds_toArray, List.set_cons_zero, List.set_cons_succ]
                refine wpAnyH_take (i := 40) (oi := ?oi40x240) (v := undef) ?hi40x240 (by kernel_rfl) (by kernel_rfl) (by kernel_rfl) ?hq40x240 ?hy40x240 hHeld ?rest40x240
                case hi40x240 => ((try simp only [List.getElem?_toArray, List.getElem?_cons_succ, List.getElem?_cons_zero]); (try rfl))
                case hq40x240 => exact fun _ _ _ h => h
                case hy40x240 => exact Or.inr ⟨by rfl, rfl⟩
                try simp only [Act.put, List.setIfInBounds_toArray, List.set_cons_zero, List.set_cons_succ]
                refine wpAnyH_take (i := 41) (oi := ?oi41x241) (v := ?v41x241) ?hi41x241 (by kernel_rfl) (by kernel_rfl) (by kernel_rfl) ?hq41x241 ?hy41x241 hHeld ?rest41x241
                case hi41x241 => ((try simp only [List.getElem?_toArray, List.getElem?_cons_succ, List.getElem?_cons_zero]); (try rfl))
                case hq41x241 => exact fun _ _ _ h => h
                case hy41x241 => exact Or.inl ⟨by rfl, by intro w hSw; clear hSw; go_simp; try with_reducible rfl⟩
                try simp only [Act.put, List.setIfInBounds_toArray, List.set_cons_zero, List.set_cons_succ]
                refine wpAnyH_done (by kernel_rfl) ?_ _
                clear hHeld
                have X2 := Lib.hid X.out.two
                have X3 := Lib.hid X.out.below
                clear X
                go_wp2_with fail
                go_roundw
                case rel => exact ⟨k + 1, by omega, by go_num, DD.out, X2, X3⟩
                case measure => simp [intOf]; omega
          · obtain rfl : k = n := by omega
            have hc : (x, l.length) = (x, l.length) := rfl
            obtain ⟨b, off, rfl, lt, row⟩ := (HL.out _ B2.out).get hil
            have R := Lib.hid (row i hil)
            obtain ⟨o, ho⟩ : ∃ o, l[i]'hil = o := ⟨_, rfl⟩
            rw [ho] at R
            have YES : Hid (bestN l i k → keptTo l (i + 1) = keptTo l i ++ [o] ∧ dropTo l (i + 1) = dropTo l i) := Lib.hid (fun h => by
              have h' : bestP l i := by unfold bestP; rw [NL.out]; exact h
              exact ⟨by rw [keptTo_yes hil h', ho], dropTo_yes h'⟩)
            have NOT : Hid (¬ bestN l i k → keptTo l (i + 1) = keptTo l i ∧ dropTo l (i + 1) = dropTo l i ++ [i]) := Lib.hid (fun h => by
              have h' : ¬ bestP l i := by unfold bestP; rw [NL.out]; exact h
              exact ⟨keptTo_no h', dropTo_no h'⟩)
            have ll := (LN.out i).1
            have KL := Lib.hid (show (keptTo l i).length ≤ 1000000 by omega)
            have DL := Lib.hid (show (dropTo l i).length ≤ 1000000 by omega)
            clear row lt ho ll hc
            by_cases hbst : bestN l i k
            · rw [decide_eq_true hbst]
              obtain ⟨E1, E2⟩ := YES.out hbst
              have E3 := Lib.hid E1
              have E4 := Lib.hid E2
              clear YES NOT hbst E1 E2
              go_wp2_with (first | (refine wpList_load_mid rfl _ (.tmp 74) rfl b (off + i * 8) rfl (obsC o) _ R.out Tryz.underlying33 rfl info8 ?_) | (at_builtin; refine wp_keep _ rfl (.tmp 71) (.tmp 76) rfl w.heap.size _ _ (keptTo l i) (dropTo l i) o rfl (by first | rfl | simp [Act.eval]) M2.out KL.out ?_; intro v' w7 h7 hg7 hat7 hb7))
              have M7 := Lib.hid h7
              have B7 := Lib.hid (B2.out.trans hb7)
              clear h7 hg7 hat7 hb7 M2 B2 R
              go_wp2_with fail
              go_roundw
              case rel => exact ⟨i + 1, _, _, by omega, by go_num, rfl, rfl, Lib.hid (by rw [E3.out, E4.out]; exact M7.out), B7⟩
              case measure => simp [intOf]; omega
            · rw [decide_eq_false hbst]
              obtain ⟨E1, E2⟩ := NOT.out hbst
              have E3 := Lib.hid E1
              have E4 := Lib.hid E2
              clear YES NOT hbst E1 E2
              go_wp2_with (at_builtin; refine wp_drop _ rfl (.tmp 78) (.tmp 80) rfl w.heap.size _ _ (keptTo l i) (dropTo l i) i rfl (by first | rfl | simp [Act.eval]) M2.out DL.out ?_; intro v' w7 h7 hg7 hat7 hb7)
              have M7 := Lib.hid h7
              have B7 := Lib.hid (B2.out.trans hb7)
              clear h7 hg7 hat7 hb7 M2 B2 R
              go_wp2_with fail
              go_roundw
              case rel => exact ⟨i + 1, _, _, by omega, by go_num, rfl, rfl, Lib.hid (by rw [E3.out, E4.out]; exact M7.out), B7⟩
              case measure => simp [intOf]; omega
      · obtain rfl : i = n := by omega
        have hsv := slV_of M.out.kp.1
        have IV := Lib.hid (Own1.intV M.out.dp)
        obtain ⟨ka, kc, rfl, hsl⟩ := hsv
        have zk : (keptTo l i).length ≤ 1000000 := by have := (LN.out i).1; omega
        have SO := Lib.hid (rsort_any ka kc (keptTo l i) wr hsl zk KB.out)
        have KZ := Lib.hid (ZK.out i (by have := NL.out; omega))
        clear hsl M HL ZK KB LN zk
        go_wp2_with fail
        refine SO.out.mono ?_
        rintro e w8 ⟨v8, y, c, rfl, hs, hv, hb8⟩
        obtain ⟨sp, so, rfl⟩ : y.Perm (keptTo l i) ∧ ordL y ∧ c = 0 := by
          rcases hs with ⟨_, h1, h2, h3⟩ | ⟨h1, _⟩
          · exact ⟨h1, h2, h3⟩
          · exact absurd KZ.out h1
        have F := Lib.hid (FIN.out y sp so)
        have V8 := Lib.hid hv
        have I8 := Lib.hid (IV.out.below hb8)
        have B8 := Lib.hid (below_then B.out hb8)
        clear hs hv hb8 sp so IV B SO FIN KZ
        go_wp2_with fail
        go_ret3
        exact ⟨_, _, y, _, 0, rfl, F.out, V8.out, I8.out, B8.out⟩
  · have FIN := Lib.hid (show MergeIs l [] [] (allC l) from Or.inr ⟨hz, rfl, rfl, rfl⟩)
    have hnz : (allC l != 0) = true := by rw [bne, beq_eq_false_iff_ne.2 hz]; rfl
    clear hl hb hnl hm HL hz
    generalize allC l = K at *
    go_enter Tryz.func11, Tryz.ntmps11
    go_wp2_with fail
    refine CA.out.mono ?_
    rintro e w1 ⟨rfl, hb1⟩
    have B1 := Lib.hid hb1
    clear hb1 CA
    go_wp2_with fail
    go_ret3
    exact ⟨_, _, [], [], _, rfl, FIN.out, SlV.nil _, IntV.nil _, B1.out⟩
end Vw
end Go.Proofs.YtaghilgfldaaiaaGreatDoor
