/-
  The walks of valid and FromUtc of the reference.
-/
import Derived.Test.YtmgehfakcnmdnaaDoorMRef3
import Derived.StillTailTactics
import Derived.Deep.RegionHeld3
namespace Go.Proofs.YtmgehfakcnmdnaaDoor
namespace Mw
open Go.RowKit Mp Lw

abbrev rdateV (y m d h i s u : Int) : Value := .agg #[.int .i64 y, .int .i64 m, .int .i64 d, .int .i64 h, .int .i64 i, .int .i64 s, .int .i64 u]

def ValidPost (y m d h i s u : Int) (w : World) (e : Ending) (w' : World) : Prop := ∃ b : Bool, e = .returned (.bool b) ∧ (b = true ↔ fromOk y m d h i s u) ∧ Below w.heap.size w w'

theorem valid_no {y m d h i s u : Int} {w w' : World} (hB : Below w.heap.size w w') (hn : ¬ fromOk y m d h i s u) : ValidPost y m d h i s u w (.returned (.bool false)) w' :=
  ⟨false, rfl, ⟨fun e => (by cases e), fun e => absurd e hn⟩, hB⟩
theorem valid_lt {y m d h i s u : Int} {w w' : World} (hB : Below w.heap.size w w') (hw : wholeP y m d) (h1 : 0 ≤ h) (h2 : h ≤ 23) (h3 : 0 ≤ i) (h4 : i ≤ 59) (h5 : 0 ≤ s) (h7 : 0 ≤ u) (h8 : u ≤ 999999) (hs : ¬ s = 60) : ValidPost y m d h i s u w (.returned (.bool (decide (s < 60)))) w' :=
  ⟨_, rfl, ⟨fun e => ⟨hw, h1, h2, h3, h4, h5, h7, by omega, Or.inl (of_decide_eq_true e)⟩, fun ⟨_, _, _, _, _, _, _, _, e⟩ => decide_eq_true (by rcases e with e | ⟨e, _⟩ <;> omega)⟩, hB⟩
theorem valid_60 {y m d h i s u : Int} {w w' : World} (hB : Below w.heap.size w w') (hw : wholeP y m d) (h1 : h = 23) (h3 : i = 59) (h7 : 0 ≤ u) (h8 : u ≤ 999999) (hs : s = 60) : ValidPost y m d h i s u w (.returned (.bool (secs y m d == 86401))) w' :=
  ⟨_, rfl, ⟨fun e => ⟨hw, by omega, by omega, by omega, by omega, by omega, h7, by omega, Or.inr ⟨hs, h1, h3, by
      unfold leapday
      have e := beq_iff_eq.1 e
      unfold secs at e
      by_cases c : d = mo y (m + 1) - mo y m ∧ lps (12 * y + m) = lps (12 * y + m - 1) + 1
      · exact c
      · rw [if_neg c] at e; omega⟩⟩, fun ⟨_, _, _, _, _, _, _, _, e⟩ => beq_iff_eq.2 (by
      rcases e with e | ⟨_, _, _, e⟩
      · omega
      · unfold leapday at e; rw [secs, if_pos e])⟩, hB⟩
set_option maxRecDepth 100000 in
set_option maxHeartbeats 1000000 in
theorem valid_any (y m d h i s u : Int) (w : World) :
    Calls Tryd.prog 30 #[rdateV y m d h i s u] w (ValidPost y m d h i s u w) := by
  by_cases c1 : y < 1972
  · have d1 : decide (y < 1972) = true := by simpa using c1
    go_enter Tryd.func30, Tryd.ntmps30
    go_wp2
    go_quiet (fail)
    go_wp2
    go_ret
    exact valid_no (drewN_below2 ((Below.refl w.heap.size w).alloc (Nat.le_refl _) _) _) (fun ⟨⟨b1, b2, b3, b4, b5, b6⟩, _⟩ => by omega)
  · have d1 : decide (y < 1972) = false := by simpa using c1
    by_cases c2 : 2099 < y
    · have d2 : decide (2099 < y) = true := by simpa using c2
      go_enter Tryd.func30, Tryd.ntmps30
      go_wp2
      go_quiet (fail)
      go_wp2
      go_ret
      exact valid_no (drewN_below2 ((Below.refl w.heap.size w).alloc (Nat.le_refl _) _) _) (fun ⟨⟨b1, b2, b3, b4, b5, b6⟩, _⟩ => by omega)
    · have d2 : decide (2099 < y) = false := by simpa using c2
      by_cases c3 : m < 1
      · have d3 : decide (m < 1) = true := by simpa using c3
        go_enter Tryd.func30, Tryd.ntmps30
        go_wp2
        go_quiet (fail)
        go_wp2
        go_ret
        exact valid_no (drewN_below2 ((Below.refl w.heap.size w).alloc (Nat.le_refl _) _) _) (fun ⟨⟨b1, b2, b3, b4, b5, b6⟩, _⟩ => by omega)
      · have d3 : decide (m < 1) = false := by simpa using c3
        by_cases c4 : 12 < m
        · have d4 : decide (12 < m) = true := by simpa using c4
          go_enter Tryd.func30, Tryd.ntmps30
          go_wp2
          go_quiet (fail)
          go_wp2
          go_ret
          exact valid_no (drewN_below2 ((Below.refl w.heap.size w).alloc (Nat.le_refl _) _) _) (fun ⟨⟨b1, b2, b3, b4, b5, b6⟩, _⟩ => by omega)
        · have d4 : decide (12 < m) = false := by simpa using c4
          by_cases c5 : d < 1
          · have d5 : decide (d < 1) = true := by simpa using c5
            go_enter Tryd.func30, Tryd.ntmps30
            go_wp2
            go_quiet (fail)
            go_wp2
            go_ret
            exact valid_no (drewN_below2 ((Below.refl w.heap.size w).alloc (Nat.le_refl _) _) _) (fun ⟨⟨b1, b2, b3, b4, b5, b6⟩, _⟩ => by omega)
          · have d5 : decide (d < 1) = false := by simpa using c5
            go_enter Tryd.func30, Tryd.ntmps30
            go_wp2
            have hn : w.heap.size < (w.alloc (.cells #[.int .i64 y, .int .i64 m, .int .i64 d, .int .i64 h, .int .i64 i, .int .i64 s, .int .i64 u] 37)).heap.size := by simp
            go_region_held3 (fun w' => w'.cell? ⟨w.heap.size, 0, none⟩ = some (.int .i64 y) ∧ w'.cell? ⟨w.heap.size, 1, none⟩ = some (.int .i64 m) ∧ w'.cell? ⟨w.heap.size, 2, none⟩ = some (.int .i64 d) ∧ w'.cell? ⟨w.heap.size, 3, none⟩ = some (.int .i64 h) ∧ w'.cell? ⟨w.heap.size, 4, none⟩ = some (.int .i64 i) ∧ w'.cell? ⟨w.heap.size, 5, none⟩ = some (.int .i64 s) ∧ w'.cell? ⟨w.heap.size, 6, none⟩ = some (.int .i64 u)) (go_keep) (first | (go_at_call 40; refine (length_any _ _ _ (by omega) (by omega) (by omega)).mono ?_; rintro e w1 ⟨rfl, hb⟩; obtain ⟨hc, hf⟩ := bcell hb))
            rename_i hS
            obtain ⟨k0, k1, k2, k3, k4, k5, k6⟩ := hS
            have hB := below_then ((Below.refl w.heap.size w).alloc (Nat.le_refl _) _).drew hb
            clear hc hf
            go_wp2_with (go_at_call 25; refine (seconds_any _ _ _ _ ⟨by omega, by omega, by omega, by omega, by omega, by omega⟩).mono ?_; rintro e w2 ⟨rfl, hb2⟩)
            all_goals go_ret
            all_goals first
              | exact valid_no hB (fun ⟨⟨b1, b2, b3, b4, b5, b6⟩, g1, g2, g3, g4, g5, g6, g7, g8⟩ => by omega)
              | (have hs := beq_iff_eq.1 (by assumption : (s == 60) = true); exact valid_no hB (fun ⟨⟨b1, b2, b3, b4, b5, b6⟩, g1, g2, g3, g4, g5, g6, g7, g8⟩ => by omega))
              | (have hs := beq_eq_false_iff_ne.1 (by assumption : (s == 60) = false); exact valid_lt hB ⟨by omega, by omega, by omega, by omega, by omega, by omega⟩ (by omega) (by omega) (by omega) (by omega) (by omega) (by omega) (by omega) hs)
              | (have hs := beq_iff_eq.1 (by assumption : (s == 60) = true); exact valid_60 (below_then hB hb2) ⟨by omega, by omega, by omega, by omega, by omega, by omega⟩ (by omega) (by omega) (by omega) (by omega) hs)
end Mw
end Go.Proofs.YtmgehfakcnmdnaaDoor
