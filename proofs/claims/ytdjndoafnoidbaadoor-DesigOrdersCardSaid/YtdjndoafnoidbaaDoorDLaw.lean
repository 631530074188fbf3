/-
  The walk of DesigOrders: the program and the reference return the same, for any designations, list, date and half-month.
-/
import Derived.Test.YtdjndoafnoidbaaDoorDWalk3
import Derived.Test.YtdjndoafnoidbaaDoorDRef3
import Derived.Test.YtdjndoafnoidbaaDoorDHalf
import Derived.Test.YtdjndoafnoidbaaDoorDRNext
namespace Go.Proofs.YtdjndoafnoidbaaDoor
namespace Dw
open Go.RowKit Dp Lw

theorem two_there {w : World} {n y u s c n' y' u' s' c' : Int} : ((w.alloc (.cells (desigC n y u s c).toArray 23)).alloc (.cells (desigC n' y' u' s' c').toArray 23)).rangeAt w.heap.size 0 (desigC n y u s c) :=
  rangeAt_below (rangeAt_new w (desigC n y u s c) 23) ((Below.refl (w.alloc (.cells (desigC n y u s c).toArray 23)).heap.size _).alloc (Nat.le_refl _) _) (by simp)

set_option maxRecDepth 100000 in
set_option maxHeartbeats 4000000 in
theorem law_any (n y u s c n' y' u' s' c' : Int) (x : Option Addr) (len cap : Nat) (yy dd hf : Int) (L : Ls) (w : World) (hT : Tab w)
    (h0 : 0 ≤ u) (h1 : u < 256) (s0 : 0 ≤ s) (s1 : s < 256) (h0' : 0 ≤ u') (h1' : u' < 256) (s0' : 0 ≤ s') (s1' : s' < 256) (hm : len ≤ 9223372036854775807)
    (hN : ∀ w', Below w.heap.size w w' → Tab w' → Calls Tryd.prog 14 #[.slice x len cap, .int .i64 yy, .int .u8 hf] w' (NextPost L len yy hf w'))
    (hR : ∀ w', Below w.heap.size w w' → Calls Tryd.prog 15 #[.slice x len cap, .int .i64 yy, .int .u8 hf] w' (RNextPost L len yy hf w')) :
    Calls Tryd.prog 3 #[desigV n y u s c, desigV n' y' u' s' c', .slice x len cap, .int .i64 yy, .int .i64 dd, .int .u8 hf] w fun e w' => e = .returned (.bool true) ∧ Below w.heap.size w w' := by
  have HN := Lib.hid hN
  have HR := Lib.hid hR
  have hb0 : Below w.heap.size w ((w.alloc (.cells (desigC n y u s c).toArray 23)).alloc (.cells (desigC n' y' u' s' c').toArray 23)) := ((Below.refl w.heap.size w).alloc (Nat.le_refl _) _).alloc (by simp) _
  clear hN hR
  by_cases early : (100 < len ∧ len ≤ 1000) ∨ 1010 < len
  · rcases early with ⟨l1, l2⟩ | l3
    · have i1 : (100 : Int) < (len : Int) := by omega
      have i2 : (len : Int) ≤ 1000 := by omega
      go_enter Tryd.func3, Tryd.ntmps3
      go_wp2_with fail
      go_ret
      exact ⟨rfl, hb0⟩
    · have i1 : (100 : Int) < (len : Int) := by omega
      have i2 : ¬ (len : Int) ≤ 1000 := by omega
      have i3 : (1010 : Int) < (len : Int) := by omega
      go_enter Tryd.func3, Tryd.ntmps3
      go_wp2_with fail
      go_ret
      exact ⟨rfl, hb0⟩
  · have i3 : ¬ (1010 : Int) < (len : Int) := by omega
    have i12 : ¬ (100 : Int) < (len : Int) ∨ ¬ (len : Int) ≤ 1000 := by omega
    have I12 := Lib.hid i12
    clear early i12
    have r1 := two_there (w := w) (n := n) (y := y) (u := u) (s := s) (c := c) (n' := n') (y' := y') (u' := u') (s' := s') (c' := c')
    have r1' := rangeAt_new (w.alloc (.cells (desigC n y u s c).toArray 23)) (desigC n' y' u' s' c') 23
    have z1 : w.heap.size < ((w.alloc (.cells (desigC n y u s c).toArray 23)).alloc (.cells (desigC n' y' u' s' c').toArray 23)).heap.size := by simp; omega
    have z1' : (w.alloc (.cells (desigC n y u s c).toArray 23)).heap.size < ((w.alloc (.cells (desigC n y u s c).toArray 23)).alloc (.cells (desigC n' y' u' s' c').toArray 23)).heap.size := by simp
    have hsz : (w.alloc (.cells (desigC n y u s c).toArray 23)).heap.size = w.heap.size + 1 := by simp
    rw [hsz] at r1' z1'
    have HT := Lib.hid hT
    clear hT hsz
    rcases I12.out with i1 | i1
    all_goals
      go_enter Tryd.func3, Tryd.ntmps3
      go_wp2_with (first | (refine wpList_load_mid rfl _ (.tmp 6) rfl w.heap.size 0 rfl (desigC n y u s c) _ r1 Tryd.underlying23 rfl info5d ?_) | (refine wpList_load_mid rfl _ (.tmp 7) rfl (w.heap.size + 1) 0 rfl (desigC n' y' u' s' c') _ r1' Tryd.underlying23 rfl info5d ?_))
      refine (Compare_any n y u s c n' y' u' s' c' _ (HT.out.below hb0) h0 h1 s0 s1 h0' h1' s0' s1').mono ?_
      rintro e w1 ⟨v1, k1, rfl, g1, hb1⟩
      have r2 := rangeAt_below r1 hb1 z1
      have r2' := rangeAt_below r1' hb1 z1'
      have hB1 := below_then hb0 hb1
      have z2 : w.heap.size < w1.heap.size := by have := hb1.size; omega
      have z2' : w.heap.size + 1 < w1.heap.size := by have := hb1.size; omega
      clear r1 r1' z1 z1' hb0 hb1
      go_wp2_with (first | (refine wpList_load_mid rfl _ (.tmp 6) rfl w.heap.size 0 rfl (desigC n y u s c) _ r2 Tryd.underlying23 rfl info5d ?_) | (refine wpList_load_mid rfl _ (.tmp 7) rfl (w.heap.size + 1) 0 rfl (desigC n' y' u' s' c') _ r2' Tryd.underlying23 rfl info5d ?_))
      refine (rCompare_any n y u s c n' y' u' s' c' _ h0 h1 s0 s1 h0' h1' s0' s1').mono ?_
      rintro e w2 ⟨v2, k2, rfl, g2, hb2⟩
      obtain ⟨rfl, rfl⟩ := g1.uniq g2
      have hB2 := below_then hB1 hb2
      have hT2 := HT.out.below hB2
      clear r2 r2' z2 z2' hB1 hb2 g1 g2
      go_wp2_with fail
      refine (Half_any yy dd _ hT2).mono ?_
      rintro e w3 ⟨v3, k3, rfl, g3, rfl⟩
      go_wp2_with fail
      refine (rHalf_any yy dd _).mono ?_
      rintro e w4 ⟨v4, k4, rfl, g4, rfl⟩
      obtain ⟨rfl, rfl⟩ := g3.uniq g4
      clear g3 g4
      go_wp2_with fail
      refine (HN.out _ hB2 hT2).mono ?_
      rintro e w5 ⟨a1, a2, a3, a4, a5, a6, rfl, g5, hb5⟩
      have hB5 := below_then hB2 hb5
      clear hb5 hB2 hT2
      go_wp2_with (refine wpList_store_new rfl _ (.tmp 21) (.tmp 67) rfl _ _ rfl rfl info5d rfl ?_ ?_; simp [Value.oneCell'])
      have hB5' := hB5.alloc hB5.size (.cells (desigC a1 a2 a3 a4 a5).toArray 23)
      refine (HR.out _ hB5').mono ?_
      rintro e w6 ⟨b1, b2, b3, b4, b5, b6, rfl, g6, hb6⟩
      obtain ⟨rfl, rfl, rfl, rfl, rfl, rfl⟩ := g5.uniq g6
      have hB6 := below_then hB5' hb6
      have z6 : w5.heap.size < w6.heap.size := by have := hb6.size; simp at this; omega
      have r6 := rangeAt_below (rangeAt_new w5 (desigC a1 a2 a3 a4 a5) 23) hb6 (by simp)
      have k0 : w6.cell? ⟨w5.heap.size, 0, none⟩ = some (.int .i64 a1) := r6 0 _ rfl
      have k1' : w6.cell? ⟨w5.heap.size, 1, none⟩ = some (.int .i64 a2) := r6 1 _ rfl
      have k2' : w6.cell? ⟨w5.heap.size, 2, none⟩ = some (.int .u8 a3) := r6 2 _ rfl
      have k3' : w6.cell? ⟨w5.heap.size, 3, none⟩ = some (.int .u8 a4) := r6 3 _ rfl
      have k4' : w6.cell? ⟨w5.heap.size, 4, none⟩ = some (.int .i64 a5) := r6 4 _ rfl
      clear hb6 r6 hB5 hB5' g5 g6
      go_wp2_with (refine wpList_store_new rfl _ (.tmp 23) (.tmp 74) rfl _ _ rfl rfl info5d rfl ?_ ?_; simp [Value.oneCell'])
      go_ret
      exact ⟨rfl, hB6.alloc hB6.size _⟩
end Dw
end Go.Proofs.YtdjndoafnoidbaaDoor
