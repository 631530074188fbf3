/-
  The walks of days, calendar and begin of package moment.
-/
import Derived.Test.YtmgehfakcnmdnaaDoorMWalk1
namespace Go.Proofs.YtmgehfakcnmdnaaDoor
namespace Mw
open Go.RowKit Mp Lw

theorem ret_int {k : IntKind} {a b : Int} (h : a = b) : Ending.returned (.int k a) = .returned (.int k b) := by rw [h]

set_option maxHeartbeats 400000 in
theorem days_any (y m d : Int) (w : World) (h1 : 1900 ≤ y) (h2 : y ≤ 2200) (h3 : 1 ≤ m) (h4 : m ≤ 13) (h5 : -100 ≤ d) (h6 : d ≤ 100) :
    Calls Tryd.prog 19 #[.int .i64 y, .int .i64 m, .int .i64 d] w fun e w' => e = .returned (.int .i64 (dn y m d)) ∧ w = w' := by
  by_cases hc : m < 3
  · go_enter Tryd.func19, Tryd.ntmps19
    go_wp2
    go_ret
    exact ⟨ret_int (by unfold dn fday; rw [if_pos hc]), rfl⟩
  · go_enter Tryd.func19, Tryd.ntmps19
    go_wp2
    go_ret
    exact ⟨ret_int (by unfold dn fday; rw [if_neg (by omega)]), rfl⟩

theorem mo_bd (y m : Int) (h1 : 1900 ≤ y) (h2 : y ≤ 2200) (h3 : 1 ≤ m) (h4 : m ≤ 13) : -40000 ≤ dn y m 1 ∧ dn y m 1 ≤ 80000 := by
  unfold dn fday; split <;> omega

set_option maxHeartbeats 1000000 in
theorem calendar_any (n y m : Int) (w : World) (h : IsYM n y m) (a : 1971 ≤ y) (b : y ≤ 2100) :
    Calls Tryd.prog 35 #[.int .i64 n] w fun e w' => e = .returned (.tuple #[.int .i64 y, .int .i64 m, .int .i64 (n - mo y m + 1)]) ∧ w = w' := by
  obtain ⟨n1, n2⟩ := h.range a b
  have yl := h.ylo
  have yh := h.yhi
  have M1 := h.m1
  have M2 := h.m12
  have Hh := Lib.hid h
  clear h
  by_cases hs : n < 0
  · have st := start_lo n y hs n1 yh
    clear yl yh
    go_enter Tryd.func35, Tryd.ntmps35
    go_wp2
    go_loop [2] (fun t => ∃ z : Int, 1900 ≤ z ∧ z ≤ y ∧ t = .int .i64 z) (fun t => (y - intOf t).toNat)
    case atStart => exact ⟨_, by omega, by omega, rfl⟩
    case round =>
      obtain ⟨z, z1, z2, rfl⟩ := hrel
      by_cases hz : z = y
      · subst hz
        have e1 : ¬ dn (z + 1) 1 1 ≤ n := by have := Hh.out.yhi; unfold mo at this; omega
        go_wp2_with (go_at_call 19; refine (days_any _ _ _ _ (by omega) (by omega) (by omega) (by omega) (by omega) (by omega)).mono ?_; rintro e w' ⟨rfl, rfl⟩)
        go_loop [3] (fun t => ∃ k : Int, 1 ≤ k ∧ k ≤ m ∧ t = .int .i64 k) (fun t => (m - intOf t).toNat)
        case atStart => exact ⟨1, by omega, by omega, rfl⟩
        case round =>
          obtain ⟨k, k1, k2, rfl⟩ := hrel
          have hb := mo_bd z k (by omega) (by omega) (by omega) (by omega)
          by_cases hk : k = m
          · subst hk
            have e2 : ¬ dn z (k + 1) 1 ≤ n := by have := Hh.out.hi; unfold mo at this; omega
            by_cases e3 : k < 12
            all_goals
              go_wp2_with (go_at_call 19; refine (days_any _ _ _ _ (by omega) (by omega) (by omega) (by omega) (by omega) (by omega)).mono ?_; rintro e w' ⟨rfl, rfl⟩)
              go_ret3
              exact ⟨rfl, rfl⟩
          · have e2 : dn z (k + 1) 1 ≤ n := by have h7 := Hh.out.lo; have := mo_le z (k + 1) m (by omega) (by omega); unfold mo at *; omega
            have e3 : k < 12 := by omega
            go_wp2_with (go_at_call 19; refine (days_any _ _ _ _ (by omega) (by omega) (by omega) (by omega) (by omega) (by omega)).mono ?_; rintro e w' ⟨rfl, rfl⟩)
            go_round
            case rel => exact ⟨k + 1, by omega, by omega, rfl⟩
            case measure => simp [intOf]; omega
      · have e1 : dn (z + 1) 1 1 ≤ n := by have h7 := Hh.out.ylo; have := mo_year_le (z + 1) y (by omega); unfold mo at *; omega
        go_wp2_with (go_at_call 19; refine (days_any _ _ _ _ (by omega) (by omega) (by omega) (by omega) (by omega) (by omega)).mono ?_; rintro e w' ⟨rfl, rfl⟩)
        go_round
        case rel => exact ⟨z + 1, by omega, by omega, rfl⟩
        case measure => simp [intOf]; omega
  · have st := start_hi n y (by omega) n2 yh
    clear yl yh
    go_enter Tryd.func35, Tryd.ntmps35
    go_wp2
    go_loop [2] (fun t => ∃ z : Int, 1900 ≤ z ∧ z ≤ y ∧ t = .int .i64 z) (fun t => (y - intOf t).toNat)
    case atStart => exact ⟨_, by omega, by omega, rfl⟩
    case round =>
      obtain ⟨z, z1, z2, rfl⟩ := hrel
      by_cases hz : z = y
      · subst hz
        have e1 : ¬ dn (z + 1) 1 1 ≤ n := by have := Hh.out.yhi; unfold mo at this; omega
        go_wp2_with (go_at_call 19; refine (days_any _ _ _ _ (by omega) (by omega) (by omega) (by omega) (by omega) (by omega)).mono ?_; rintro e w' ⟨rfl, rfl⟩)
        go_loop [3] (fun t => ∃ k : Int, 1 ≤ k ∧ k ≤ m ∧ t = .int .i64 k) (fun t => (m - intOf t).toNat)
        case atStart => exact ⟨1, by omega, by omega, rfl⟩
        case round =>
          obtain ⟨k, k1, k2, rfl⟩ := hrel
          have hb := mo_bd z k (by omega) (by omega) (by omega) (by omega)
          by_cases hk : k = m
          · subst hk
            have e2 : ¬ dn z (k + 1) 1 ≤ n := by have := Hh.out.hi; unfold mo at this; omega
            by_cases e3 : k < 12
            all_goals
              go_wp2_with (go_at_call 19; refine (days_any _ _ _ _ (by omega) (by omega) (by omega) (by omega) (by omega) (by omega)).mono ?_; rintro e w' ⟨rfl, rfl⟩)
              go_ret3
              exact ⟨rfl, rfl⟩
          · have e2 : dn z (k + 1) 1 ≤ n := by have h7 := Hh.out.lo; have := mo_le z (k + 1) m (by omega) (by omega); unfold mo at *; omega
            have e3 : k < 12 := by omega
            go_wp2_with (go_at_call 19; refine (days_any _ _ _ _ (by omega) (by omega) (by omega) (by omega) (by omega) (by omega)).mono ?_; rintro e w' ⟨rfl, rfl⟩)
            go_round
            case rel => exact ⟨k + 1, by omega, by omega, rfl⟩
            case measure => simp [intOf]; omega
      · have e1 : dn (z + 1) 1 1 ≤ n := by have h7 := Hh.out.ylo; have := mo_year_le (z + 1) y (by omega); unfold mo at *; omega
        go_wp2_with (go_at_call 19; refine (days_any _ _ _ _ (by omega) (by omega) (by omega) (by omega) (by omega) (by omega)).mono ?_; rintro e w' ⟨rfl, rfl⟩)
        go_round
        case rel => exact ⟨z + 1, by omega, by omega, rfl⟩
        case measure => simp [intOf]; omega
end Mw
end Go.Proofs.YtmgehfakcnmdnaaDoor
