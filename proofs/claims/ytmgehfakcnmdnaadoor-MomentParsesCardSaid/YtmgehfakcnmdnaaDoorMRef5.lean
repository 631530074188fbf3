/-
  The walk of FromUtc of the reference.
-/
import Derived.Test.YtmgehfakcnmdnaaDoorMRef4
namespace Go.Proofs.YtmgehfakcnmdnaaDoor
namespace Mw
open Go.RowKit Mp Lw

/-- What FromUtc does. -/
def RFromPost (y m d h i s u : Int) (w : World) (e : Ending) (w' : World) : Prop := ∃ t c : Int, e = .returned (.tuple #[.int .i64 t, .int .i64 c]) ∧ FromIs y m d h i s u t c ∧ Below w.heap.size w w'

set_option maxRecDepth 100000 in
set_option maxHeartbeats 2000000 in
theorem rfrom_any (y m d h i s u : Int) (w : World) :
    Calls Tryd.prog 15 #[rdateV y m d h i s u] w (RFromPost y m d h i s u w) := by
  by_cases hok : fromOk y m d h i s u
  · have Hok := Lib.hid hok
    obtain ⟨hw, g1, g2, g3, g4, g5, g6, g7, g8⟩ := hok
    have g8 : s ≤ 60 := by rcases g8 with g | ⟨g, _⟩ <;> omega
    have hI := wholeP_ym hw
    obtain ⟨n1, n2⟩ := wholeP_range hw
    have bd := bgv_bd (dn y m d) y m (by omega) (by omega)
    have Fin := Lib.hid (show bgv (dn y m d) y m + (h * 3600 + i * 60 + s) * 1000000 + u = timeOf y m d h i s u by unfold timeOf; omega)
    rw [dn_mo] at bd
    obtain ⟨a1, a2, a3, a4, a5, a6⟩ := hw
    have HI := Lib.hid hI
    clear hI
    go_enter Tryd.func15, Tryd.ntmps15
    go_wp2_with fail
    refine (valid_any _ _ _ _ _ _ _ _).mono ?_
    rintro e w1 ⟨b, rfl, hb, hB⟩
    obtain rfl : b = true := hb.2 Hok.out
    clear hb
    obtain ⟨hc, hf⟩ := bcell hB
    have k0 : w1.cell? ⟨w.heap.size, 0, none⟩ = some (.int .i64 y) := by rw [hc _ _ (by simp), World.cell?_alloc_at _ _ _ _ rfl]; rfl
    have k1 : w1.cell? ⟨w.heap.size, 1, none⟩ = some (.int .i64 m) := by rw [hc _ _ (by simp), World.cell?_alloc_at _ _ _ _ rfl]; rfl
    have k2 : w1.cell? ⟨w.heap.size, 2, none⟩ = some (.int .i64 d) := by rw [hc _ _ (by simp), World.cell?_alloc_at _ _ _ _ rfl]; rfl
    have k3 : w1.cell? ⟨w.heap.size, 3, none⟩ = some (.int .i64 h) := by rw [hc _ _ (by simp), World.cell?_alloc_at _ _ _ _ rfl]; rfl
    have k4 : w1.cell? ⟨w.heap.size, 4, none⟩ = some (.int .i64 i) := by rw [hc _ _ (by simp), World.cell?_alloc_at _ _ _ _ rfl]; rfl
    have k5 : w1.cell? ⟨w.heap.size, 5, none⟩ = some (.int .i64 s) := by rw [hc _ _ (by simp), World.cell?_alloc_at _ _ _ _ rfl]; rfl
    have k6 : w1.cell? ⟨w.heap.size, 6, none⟩ = some (.int .i64 u) := by rw [hc _ _ (by simp), World.cell?_alloc_at _ _ _ _ rfl]; rfl
    have hB1 := below_then ((Below.refl w.heap.size w).alloc (Nat.le_refl _) _) hB
    have hz : w.heap.size < w1.heap.size := by have := hB.size; simp at this; omega
    clear hc hf hB
    go_wp2_with fail
    go_region_held3 (fun w' => w'.cell? ⟨w.heap.size, 0, none⟩ = some (.int .i64 y) ∧ w'.cell? ⟨w.heap.size, 1, none⟩ = some (.int .i64 m) ∧ w'.cell? ⟨w.heap.size, 2, none⟩ = some (.int .i64 d) ∧ w'.cell? ⟨w.heap.size, 6, none⟩ = some (.int .i64 u)) (go_keep) (first | (go_at_call 31; refine (begins_in _ _ _ _ (by omega) (by omega) (by omega) (by omega) (by omega) (by omega)).mono ?_; rintro e w2 ⟨rfl, hb2⟩; have q0 := (hb2.cell (p := ⟨w.heap.size, 0, none⟩) hz).trans k0; have q1 := (hb2.cell (p := ⟨w.heap.size, 1, none⟩) hz).trans k1; have q2 := (hb2.cell (p := ⟨w.heap.size, 2, none⟩) hz).trans k2; have q6 := (hb2.cell (p := ⟨w.heap.size, 6, none⟩) hz).trans k6))
    go_wp2
    go_ret2
    exact ⟨_, 0, rfl, Or.inl ⟨Hok.out, by rw [← Fin.out, dn_mo, IntWalk.i64_in ((h * 3600 + i * 60 + s) * 1000000) (by omega), IntWalk.i64_in (bgv (mo y m + d - 1) y m + (h * 3600 + i * 60 + s) * 1000000) (by omega), IntWalk.i64_in _ (by omega)], rfl⟩, below_then hB1.drew hb2⟩
  · go_enter Tryd.func15, Tryd.ntmps15
    go_wp2_with fail
    refine (valid_any _ _ _ _ _ _ _ _).mono ?_
    rintro e w1 ⟨b, rfl, hb, hB⟩
    obtain rfl : b = false := by cases b with
      | false => rfl
      | true => exact absurd (hb.1 rfl) hok
    clear hb
    go_wp2_with fail
    go_ret2
    exact ⟨0, 2, rfl, Or.inr ⟨hok, rfl, rfl⟩, below_then ((Below.refl _ _).alloc (Nat.le_refl _) _) hB⟩
end Mw
end Go.Proofs.YtmgehfakcnmdnaaDoor
