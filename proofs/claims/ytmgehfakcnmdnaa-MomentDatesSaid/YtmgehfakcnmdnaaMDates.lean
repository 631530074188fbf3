/-
  The walk of MomentDates: the program and the reference return the same, for any date, time, year and month.
-/
import Derived.Test.YtmgehfakcnmdnaaMWalk5
import Derived.Test.YtmgehfakcnmdnaaMRef6
namespace Go.Proofs.Ytmgehfakcnmdnaa
namespace Mw
open Go.RowKit Mp Lw

def ToPost (t : Int) (w : World) (e : Ending) (w' : World) : Prop := ∃ y m d h i s u c : Int, e = .returned (.tuple #[dateV y m d h i s u, .int .i64 c]) ∧ ToIs t y m d h i s u c ∧ Below w.heap.size w w'
theorem toutc_any (t : Int) (w : World) (h0 : -9223372036854775808 ≤ t) (h1 : t ≤ 9223372036854775807) : Calls Try.prog 8 #[.int .i64 t] w (ToPost t w) := by
  by_cases h : t < bgv (-10227) 1972 1 ∨ bgv 36525 2100 1 ≤ t
  · exact (toutc_out t w h0 h1 h).mono fun e w' ⟨he, hb⟩ => ⟨0, 0, 0, 0, 0, 0, 0, 16, he, Or.inl ⟨h, rfl, rfl, rfl, rfl, rfl, rfl, rfl, rfl⟩, hb⟩
  · obtain ⟨n, y, m, z, k, hd⟩ := day_ex t (by omega) (by omega)
    exact (toutc_in t n y m z k w hd (by omega) (by omega)).mono fun e w' ⟨he, hb⟩ => ⟨_, _, _, _, _, _, _, _, he, Or.inr ⟨by omega, by omega, n, z, k, hd, rfl, rfl, rfl, rfl, rfl, rfl⟩, hb⟩
def RToPost (t : Int) (w : World) (e : Ending) (w' : World) : Prop := ∃ y m d h i s u c : Int, e = .returned (.tuple #[rdateV y m d h i s u, .int .i64 c]) ∧ ToIs t y m d h i s u c ∧ Below w.heap.size w w'
theorem rtoutc_any (t : Int) (w : World) (h0 : -9223372036854775808 ≤ t) (h1 : t ≤ 9223372036854775807) : Calls Try.prog 9 #[.int .i64 t] w (RToPost t w) := by
  by_cases h : t < bgv (-10227) 1972 1 ∨ bgv 36525 2100 1 ≤ t
  · exact (rtoutc_out t w h0 h1 h).mono fun e w' ⟨he, hb⟩ => ⟨0, 0, 0, 0, 0, 0, 0, 16, he, Or.inl ⟨h, rfl, rfl, rfl, rfl, rfl, rfl, rfl, rfl⟩, hb⟩
  · obtain ⟨n, y, m, z, k, hd⟩ := day_ex t (by omega) (by omega)
    exact (rtoutc_in t n y m z k w hd (by omega) (by omega)).mono fun e w' ⟨he, hb⟩ => ⟨_, _, _, _, _, _, _, _, he, Or.inr ⟨by omega, by omega, n, z, k, hd, rfl, rfl, rfl, rfl, rfl, rfl⟩, hb⟩

set_option maxHeartbeats 2000000 in
theorem law_any (y m d h i s u t yy mm : Int) (w : World) (h0 : -9223372036854775808 ≤ t) (h1 : t ≤ 9223372036854775807) :
    Calls Try.prog 3 #[dateV y m d h i s u, .int .i64 t, .int .i64 yy, .int .i64 mm] w fun e w' => e = .returned (.bool true) ∧ Below w.heap.size w w' := by
  go_enter Try.func3, Try.ntmps3
  go_wp2_with fail
  refine (Leap_any _ _ _).mono ?_
  rintro e w1 ⟨t1, c1, rfl, g1, hb1⟩
  have r1 := rangeAt_below (rangeAt_new w (dateC y m d h i s u) 23) hb1 (by simp)
  have hB1 := below_then ((Below.refl w.heap.size w).alloc (Nat.le_refl _) _) hb1
  have z1 : w.heap.size < w1.heap.size := by have := hb1.size; simp at this; omega
  clear hb1
  go_wp2_with fail
  refine (rLeap_any _ _ _).mono ?_
  rintro e w2 ⟨t2, c2, rfl, g2, hb2⟩
  obtain ⟨rfl, rfl⟩ := g1.uniq g2
  have r2 := rangeAt_below r1 hb2 z1
  have hB2 := below_then hB1 hb2
  have z2 : w.heap.size < w2.heap.size := by have := hb2.size; omega
  clear hb2 r1 hB1 z1 g1 g2
  go_wp2_with (refine wpList_load_mid rfl _ (.tmp 4) rfl w.heap.size 0 rfl (dateC y m d h i s u) _ r2 Try.underlying23 rfl info7 ?_)
  refine (from_any y m d h i s u _).mono ?_
  rintro e w3 ⟨t3, c3, rfl, g3, hb3⟩
  have r3 := rangeAt_below r2 hb3 z2
  have hB3 := below_then hB2 hb3
  have z3 : w.heap.size < w3.heap.size := by have := hb3.size; omega
  clear hb3 r2 hB2 z2
  go_wp2_with (refine wpList_load_mid rfl _ (.tmp 4) rfl w.heap.size 0 rfl (dateC y m d h i s u) _ r3 Try.underlying23 rfl info7 ?_)
  refine (rfrom_any y m d h i s u _).mono ?_
  rintro e w4 ⟨t4, c4, rfl, g4, hb4⟩
  obtain ⟨rfl, rfl⟩ := g3.uniq g4
  have hB4 := below_then hB3 hb4
  clear hb4 r3 hB3 z3 g3 g4
  go_wp2_with fail
  refine (toutc_any _ _ h0 h1).mono ?_
  rintro e w5 ⟨a1, a2, a3, a4, a5, a6, a7, a8, rfl, g5, hb5⟩
  have hB5 := below_then hB4 hb5
  clear hb5 hB4
  go_wp2_with (refine wpList_store_new rfl _ (.tmp 17) (.tmp 46) rfl _ _ rfl rfl info7 rfl ?_ ?_; simp [Value.oneCell'])
  refine (rtoutc_any _ _ h0 h1).mono ?_
  rintro e w6 ⟨b1, b2, b3, b4, b5, b6, b7, b8, rfl, g6, hb6⟩
  obtain ⟨rfl, rfl, rfl, rfl, rfl, rfl, rfl, rfl⟩ := g5.uniq g6
  have hB6 := below_then (hB5.alloc hB5.size _) hb6
  have z6 : w5.heap.size < w6.heap.size := by have := hb6.size; simp at this; omega
  have r6 := rangeAt_below (rangeAt_new w5 (dateC a1 a2 a3 a4 a5 a6 a7) 23) hb6 (by simp)
  have k0 : w6.cell? ⟨w5.heap.size, 0, none⟩ = some (.int .i64 a1) := r6 0 _ rfl
  have k1 : w6.cell? ⟨w5.heap.size, 1, none⟩ = some (.int .i64 a2) := r6 1 _ rfl
  have k2 : w6.cell? ⟨w5.heap.size, 2, none⟩ = some (.int .i64 a3) := r6 2 _ rfl
  have k3 : w6.cell? ⟨w5.heap.size, 3, none⟩ = some (.int .i64 a4) := r6 3 _ rfl
  have k4 : w6.cell? ⟨w5.heap.size, 4, none⟩ = some (.int .i64 a5) := r6 4 _ rfl
  have k5 : w6.cell? ⟨w5.heap.size, 5, none⟩ = some (.int .i64 a6) := r6 5 _ rfl
  have k6 : w6.cell? ⟨w5.heap.size, 6, none⟩ = some (.int .i64 a7) := r6 6 _ rfl
  clear hb6 r6 hB5 g5 g6
  go_wp2_with (refine wpList_store_new rfl _ (.tmp 19) (.tmp 51) rfl _ _ rfl rfl info7 rfl ?_ ?_; simp [Value.oneCell'])
  go_ret
  exact ⟨rfl, hB6.alloc hB6.size _⟩
end Mw
end Go.Proofs.Ytmgehfakcnmdnaa
