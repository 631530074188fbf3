/-
  The walk of AngleTurns: what Norm, Diff and Mean return, in the program and in the reference, for any int64 values and any list.
-/
import Derived.Test.YtmafjoboikbnnaaRows
import Derived.Test.YtmafjoboikbnnaaPl
import Derived.WalkKit
import Derived.ProofKit
import Derived.Outline
import Derived.Lib.Hide
import Derived.Deep.QuietTactic
import Derived.BigQuiet
import Derived.WalkLawsBesides
import Derived.WalkSpells
namespace Go.Proofs.Ytmafjoboikbnnaa
namespace Turns
open Go.RowKit

open Pl
set_option maxHeartbeats 400000 in
theorem norm_any (a : Int) (w : World) (h0 : -9223372036854775808 ≤ a) (h1 : a ≤ 9223372036854775807) :
    Calls Try.prog 6 #[.int .i64 a] w fun e w' => e = .returned (.int .i64 (a % 1296000000000)) ∧ w = w' := by
  have hf := Pl.tmod_fix a 1296000000000 (by omega)
  obtain ⟨hb1, hb2⟩ := Pl.tmod_bd a 1296000000000 (by omega)
  by_cases hc : a.tmod 1296000000000 < 0
  · rw [if_pos hc] at hf
    have Hf := Lib.hid hf
    clear hf
    go_enter Try.func6, Try.ntmps6
    go_wp2
    go_ret
    exact ⟨ret_int Hf.out, rfl⟩
  · rw [if_neg hc] at hf
    have Hf := Lib.hid hf
    clear hf
    go_enter Try.func6, Try.ntmps6
    go_wp2
    go_ret
    exact ⟨ret_int Hf.out, rfl⟩

set_option maxHeartbeats 400000 in
theorem rnorm_any (a : Int) (w : World) (h0 : -9223372036854775808 ≤ a) (h1 : a ≤ 9223372036854775807) :
    Calls Try.prog 7 #[.int .i64 a] w fun e w' => e = .returned (.int .i64 (a % 1296000000000)) ∧ w = w' := by
  have hf := Pl.tmod_fix a 1296000000000 (by omega)
  obtain ⟨hb1, hb2⟩ := Pl.tmod_bd a 1296000000000 (by omega)
  by_cases hc : a.tmod 1296000000000 < 0
  · rw [if_pos hc] at hf
    have Hf := Lib.hid hf
    clear hf
    go_enter Try.func7, Try.ntmps7
    go_wp2
    go_ret
    exact ⟨ret_int Hf.out, rfl⟩
  · rw [if_neg hc] at hf
    have Hf := Lib.hid hf
    clear hf
    go_enter Try.func7, Try.ntmps7
    go_wp2
    go_ret
    exact ⟨ret_int Hf.out, rfl⟩

set_option maxHeartbeats 400000 in
theorem diff_any (a b : Int) (w : World) (h0 : -9223372036854775808 ≤ a) (h1 : a ≤ 9223372036854775807) (h2 : -9223372036854775808 ≤ b) (h3 : b ≤ 9223372036854775807) :
    Calls Try.prog 8 #[.int .i64 a, .int .i64 b] w fun e w' => e = .returned (.int .i64 (dif a b)) ∧ w = w' := by
  have g := sub_nrm a b
  have Hg := Lib.hid g
  clear g
  go_enter Try.func8, Try.ntmps8
  go_wp2_with (go_at_call 6; refine (norm_any _ _ (by omega) (by omega)).mono ?_; rintro e w' ⟨rfl, rfl⟩)
  all_goals
    go_ret
    refine ⟨ret_int ?_, rfl⟩
    rw [Hg.out] at *
    unfold dif
    first | rw [if_pos (by omega)] | rw [if_neg (by omega)]

set_option maxHeartbeats 400000 in
theorem rdiff_any (a b : Int) (w : World) (h0 : -9223372036854775808 ≤ a) (h1 : a ≤ 9223372036854775807) (h2 : -9223372036854775808 ≤ b) (h3 : b ≤ 9223372036854775807) :
    Calls Try.prog 9 #[.int .i64 a, .int .i64 b] w fun e w' => e = .returned (.int .i64 (dif a b)) ∧ w = w' := by
  have g := sub_nrm a b
  have Hg := Lib.hid g
  clear g
  go_enter Try.func9, Try.ntmps9
  go_wp2_with (go_at_call 7; refine (rnorm_any _ _ (by omega) (by omega)).mono ?_; rintro e w' ⟨rfl, rfl⟩)
  all_goals
    go_ret
    refine ⟨ret_int ?_, rfl⟩
    rw [Hg.out] at *
    unfold dif
    first | rw [if_pos (by omega)] | rw [if_neg (by omega)]

/-- What is known of a list in memory: its cells, and that they are int64. -/
structure Row (w : World) (b off n : Nat) (f : Nat → Int) : Prop where
  cell : ∀ j, j < n → w.cell? ⟨b, off + j, none⟩ = some (.int .i64 (f j))
  lo : ∀ j, j < n → -9223372036854775808 ≤ f j
  hi : ∀ j, j < n → f j ≤ 9223372036854775807

set_option maxHeartbeats 400000 in
theorem mean_short (a : Option Addr) (cap : Nat) (w : World) :
    Calls Try.prog 4 #[.slice a 0 cap] w fun e w' => e = .returned (.tuple #[.int .i64 0, .int .i64 22]) ∧ w = w' := by
  go_enter Try.func4, Try.ntmps4
  go_wp2
  go_ret2
  exact ⟨rfl, rfl⟩
set_option maxHeartbeats 400000 in
theorem mean_many (a : Option Addr) (n cap : Nat) (w : World) (hn : 1000 < n) (hm : n ≤ 9223372036854775807) :
    Calls Try.prog 4 #[.slice a n cap] w fun e w' => e = .returned (.tuple #[.int .i64 0, .int .i64 4]) ∧ w = w' := by
  have h0 : ((n : Int) == 0) = false := beq_eq_false_iff_ne.2 (by omega)
  have h1 : (1000 : Int) < (n : Int) := by omega
  go_enter Try.func4, Try.ntmps4
  go_wp2
  go_ret2
  exact ⟨rfl, rfl⟩

set_option maxHeartbeats 400000 in
theorem mean_any (b off n cap : Nat) (f : Nat → Int) (w : World) (hn0 : 0 < n) (hn : n ≤ 1000) (hR : Row w b off n f) :
    Calls Try.prog 4 #[.slice (some ⟨b, off, none⟩) n cap] w fun e w' => e = .returned (.tuple #[.int .i64 (mean f n), .int .i64 0]) ∧ ∃ k, w' = w.drewN k := by
  have h0 : ((n : Int) == 0) = false := beq_eq_false_iff_ne.2 (by omega)
  have h1 : ¬ (1000 : Int) < (n : Int) := by omega
  have c0 := hR.cell 0 hn0
  have l0 := hR.lo 0 hn0
  have u0 := hR.hi 0 hn0
  rw [Nat.add_zero] at c0
  go_enter Try.func4, Try.ntmps4
  go_wp2
  go_loop [4, 6, 19] (fun s x i => ∃ k : Nat, k ≤ n ∧ i = .int .i64 k ∧ s = .int .i64 (sumF f (f 0) k)) (fun _ _ i => n - (intOf i).toNat)
  case atStart => exact ⟨0, Nat.zero_le _, rfl, rfl⟩
  case round =>
    obtain ⟨k, hk, rfl, rfl⟩ := hrel
    have sb := sumF_bd f (f 0) k
    by_cases hlt : k < n
    · have ck := hR.cell k hlt
      have lk := hR.lo k hlt
      have uk := hR.hi k hlt
      have db := dif_bd (f k) (f 0)
      go_wp2_with (go_at_call 8; refine (diff_any _ _ _ (by omega) (by omega) (by omega) (by omega)).mono ?_; rintro e w' ⟨rfl, rfl⟩)
      go_round
      case rel => exact ⟨k + 1, by omega, by go_num, rfl⟩
      case measure => simp [intOf]; omega
    · obtain rfl : k = n := by omega
      have hk0 : (0 : Int) < (k : Int) := by omega
      have hf := tmod_fix (sumF f (f 0) k) k hk0
      have tb := tmod_bd (sumF f (f 0) k) k hk0
      have qb := quo_bd (sumF f (f 0) k) k 648000000000000 hk0 (by omega) (by omega) (by omega)
      have e0 := Int.emod_nonneg (sumF f (f 0) k) (show (k : Int) ≠ 0 by omega)
      have e1 := Int.emod_lt_of_pos (sumF f (f 0) k) hk0
      have qe := Lib.hid (quo_exact (sumF f (f 0) k) k hk0)
      have k1 : ¬ k = 0 := by omega
      have k2 : ¬ (k : Int) = 0 := by omega
      by_cases hc : (sumF f (f 0) k).tmod k < 0
      · rw [if_pos hc] at hf
        have Hf := Lib.hid hf
        clear hf
        go_wp2
        rw [Hf.out]
        have w1 : IntKind.i64.wrap (sumF f (f 0) k - sumF f (f 0) k % k) = sumF f (f 0) k - sumF f (f 0) k % k := IntWalk.i64_in _ (by omega)
        have w2 : IntKind.i64.wrap (sumF f (f 0) k / k) = sumF f (f 0) k / k := IntWalk.i64_in _ (by omega)
        have w3 : IntKind.i64.wrap (f 0 % 1296000000000 + sumF f (f 0) k / k) = f 0 % 1296000000000 + sumF f (f 0) k / k := IntWalk.i64_in _ (by omega)
        have qe' := qe.out
        go_quiet ((go_at_call 6; first | exact quiet_left (norm_any _ _ (by omega) (by omega)) | exact quiet_add_left (norm_any _ _ (by omega) (by omega))))
        go_wp2
        go_ret2
        exact ⟨ret2_int (mean_nrm f k), nq, rfl⟩
      · rw [if_neg hc] at hf
        have Hf := Lib.hid hf
        clear hf
        go_wp2
        rw [Hf.out]
        have w1 : IntKind.i64.wrap (sumF f (f 0) k - sumF f (f 0) k % k) = sumF f (f 0) k - sumF f (f 0) k % k := IntWalk.i64_in _ (by omega)
        have w2 : IntKind.i64.wrap (sumF f (f 0) k / k) = sumF f (f 0) k / k := IntWalk.i64_in _ (by omega)
        have w3 : IntKind.i64.wrap (f 0 % 1296000000000 + sumF f (f 0) k / k) = f 0 % 1296000000000 + sumF f (f 0) k / k := IntWalk.i64_in _ (by omega)
        have qe' := qe.out
        go_quiet ((go_at_call 6; first | exact quiet_left (norm_any _ _ (by omega) (by omega)) | exact quiet_add_left (norm_any _ _ (by omega) (by omega))))
        go_wp2
        go_ret2
        exact ⟨ret2_int (mean_nrm f k), nq, rfl⟩

set_option maxHeartbeats 400000 in
theorem rmean_short (a : Option Addr) (cap : Nat) (w : World) :
    Calls Try.prog 5 #[.slice a 0 cap] w fun e w' => e = .returned (.tuple #[.int .i64 0, .int .i64 22]) ∧ w = w' := by
  go_enter Try.func5, Try.ntmps5
  go_wp2
  go_ret2
  exact ⟨rfl, rfl⟩
set_option maxHeartbeats 400000 in
theorem rmean_many (a : Option Addr) (n cap : Nat) (w : World) (hn : 1000 < n) (hm : n ≤ 9223372036854775807) :
    Calls Try.prog 5 #[.slice a n cap] w fun e w' => e = .returned (.tuple #[.int .i64 0, .int .i64 4]) ∧ w = w' := by
  have h0 : ((n : Int) == 0) = false := beq_eq_false_iff_ne.2 (by omega)
  have h1 : (1000 : Int) < (n : Int) := by omega
  go_enter Try.func5, Try.ntmps5
  go_wp2
  go_ret2
  exact ⟨rfl, rfl⟩

set_option maxHeartbeats 1000000 in
theorem rmean_any (b off n cap : Nat) (f : Nat → Int) (w : World) (hn0 : 0 < n) (hn : n ≤ 1000) (hR : Row w b off n f) :
    Calls Try.prog 5 #[.slice (some ⟨b, off, none⟩) n cap] w fun e w' => e = .returned (.tuple #[.int .i64 (mean f n), .int .i64 0]) ∧ ∃ k, w' = w.drewN k := by
  have h0 : ((n : Int) == 0) = false := beq_eq_false_iff_ne.2 (by omega)
  have h1 : ¬ (1000 : Int) < (n : Int) := by omega
  have h2 : (0 : Int) < (n : Int) := by omega
  have c0 := hR.cell 0 hn0
  have l0 := hR.lo 0 hn0
  have u0 := hR.hi 0 hn0
  rw [Nat.add_zero] at c0
  go_enter Try.func5, Try.ntmps5
  go_wp2
  go_loopw [4, 5] (fun s i wr => ∃ k q : Nat, k ≤ n ∧ i = .int .i64 k ∧ s = .int .i64 (sumF f (f 0) k) ∧ wr = w.drewN q) (fun _ i _ => n - (intOf i).toNat)
  case atStart => exact ⟨0, 0, Nat.zero_le _, rfl, rfl, rfl⟩
  case round =>
    obtain ⟨k, q, hk, rfl, rfl, rfl⟩ := hrel
    have sb := sumF_bd f (f 0) k
    by_cases hlt : k < n
    · have ck := hR.cell k hlt
      have lk := hR.lo k hlt
      have uk := hR.hi k hlt
      have db := dif_bd (f k) (f 0)
      have i1 : (0 : Int) ≤ (k : Int) := by omega
      have i2 : (k : Int) < (n : Int) := by omega
      have w1 : IntKind.i64.wrap (sumF f (f 0) k + dif (f k) (f 0)) = sumF f (f 0) k + dif (f k) (f 0) := IntWalk.i64_in _ (by omega)
      go_wp2
      go_quiet ((go_at_call 9; first | exact quiet_left (rdiff_any _ _ _ (by omega) (by omega) (by omega) (by omega)) | exact quiet_add_left (rdiff_any _ _ _ (by omega) (by omega) (by omega) (by omega))))
      clear w1
      go_wp2
      go_roundw
      case rel => exact ⟨k + 1, _, by omega, by go_num, rfl, rfl⟩
      case measure => simp [intOf]; omega
    · obtain rfl : k = n := by omega
      have hk0 : (0 : Int) < (k : Int) := by omega
      have hf := tdiv_fix (sumF f (f 0) k) k hk0
      have tb := tmod_bd (sumF f (f 0) k) k hk0
      have qb := quo_bd (sumF f (f 0) k) k 648000000000000 hk0 (by omega) (by omega) (by omega)
      have k1 : ¬ k = 0 := by omega
      have k2 : ¬ (k : Int) = 0 := by omega
      by_cases hc : (sumF f (f 0) k).tmod k < 0
      · rw [if_pos hc] at hf
        have q1 : (sumF f (f 0) k).tdiv k = sumF f (f 0) k / k + 1 := by omega
        clear hf
        go_wp2_with (go_at_call 7; refine (rnorm_any _ _ (by omega) (by omega)).mono ?_; rintro e w' ⟨rfl, rfl⟩)
        go_ret2
        exact ⟨rfl, _, rfl⟩
      · rw [if_neg hc] at hf
        go_wp2_with (go_at_call 7; refine (rnorm_any _ _ (by omega) (by omega)).mono ?_; rintro e w' ⟨rfl, rfl⟩)
        go_ret2
        exact ⟨rfl, _, rfl⟩

theorem Row.drewN {w : World} {b off n : Nat} {f : Nat → Int} (h : Row w b off n f) (k : Nat) : Row (w.drewN k) b off n f := ⟨fun j hj => by simpa using h.cell j hj, h.lo, h.hi⟩
theorem drewN_below (w : World) (k : Nat) : Below w.heap.size w (w.drewN k) := ⟨rfl, rfl, rfl, Nat.le_refl _, fun _ _ => rfl⟩

set_option maxHeartbeats 1000000 in
theorem law_any (a b : Int) (A : Option Addr) (n cap : Nat) (w : World) (h0 : -9223372036854775808 ≤ a) (h1 : a ≤ 9223372036854775807) (h2 : -9223372036854775808 ≤ b) (h3 : b ≤ 9223372036854775807)
    (hm : n ≤ 9223372036854775807) (hA : 0 < n → ∃ g off f, A = some ⟨g, off, none⟩ ∧ Row w g off n f) :
    Calls Try.prog 3 #[.int .i64 a, .int .i64 b, .slice A n cap] w fun e w' => e = .returned (.bool true) ∧ Below w.heap.size w w' := by
  by_cases c1 : 1010 < n
  · have d1 : (50 : Int) < (n : Int) := by omega
    have d2 : ¬ (n : Int) ≤ 1000 := by omega
    have d3 : (1010 : Int) < (n : Int) := by omega
    go_enter Try.func3, Try.ntmps3
    go_wp2
    go_ret
    exact ⟨rfl, Below.refl _ _⟩
  · by_cases c2 : 1000 < n
    · have d1 : (50 : Int) < (n : Int) := by omega
      have d2 : ¬ (n : Int) ≤ 1000 := by omega
      have d3 : ¬ (1010 : Int) < (n : Int) := by omega
      go_enter Try.func3, Try.ntmps3
      go_wp2_with (first | (go_at_call 4; refine (mean_many _ _ _ _ c2 hm).mono ?_; rintro e w' ⟨rfl, rfl⟩) | (go_at_call 5; refine (rmean_many _ _ _ _ c2 hm).mono ?_; rintro e w' ⟨rfl, rfl⟩) | (go_at_call 6; refine (norm_any _ _ (by omega) (by omega)).mono ?_; rintro e w' ⟨rfl, rfl⟩) | (go_at_call 7; refine (rnorm_any _ _ (by omega) (by omega)).mono ?_; rintro e w' ⟨rfl, rfl⟩) | (go_at_call 8; refine (diff_any _ _ _ (by omega) (by omega) (by omega) (by omega)).mono ?_; rintro e w' ⟨rfl, rfl⟩) | (go_at_call 9; refine (rdiff_any _ _ _ (by omega) (by omega) (by omega) (by omega)).mono ?_; rintro e w' ⟨rfl, rfl⟩))
      go_ret
      exact ⟨by simp, Below.refl _ _⟩
    · by_cases c3 : 50 < n
      · have d1 : (50 : Int) < (n : Int) := by omega
        have d2 : (n : Int) ≤ 1000 := by omega
        go_enter Try.func3, Try.ntmps3
        go_wp2
        go_ret
        exact ⟨rfl, Below.refl _ _⟩
      · have d1 : ¬ (50 : Int) < (n : Int) := by omega
        have d3 : ¬ (1010 : Int) < (n : Int) := by omega
        by_cases c4 : n = 0
        · subst c4
          clear d1 d3
          go_enter Try.func3, Try.ntmps3
          go_wp2_with (first | (go_at_call 4; refine (mean_short _ _ _).mono ?_; rintro e w' ⟨rfl, rfl⟩) | (go_at_call 5; refine (rmean_short _ _ _).mono ?_; rintro e w' ⟨rfl, rfl⟩) | (go_at_call 6; refine (norm_any _ _ (by omega) (by omega)).mono ?_; rintro e w' ⟨rfl, rfl⟩) | (go_at_call 7; refine (rnorm_any _ _ (by omega) (by omega)).mono ?_; rintro e w' ⟨rfl, rfl⟩) | (go_at_call 8; refine (diff_any _ _ _ (by omega) (by omega) (by omega) (by omega)).mono ?_; rintro e w' ⟨rfl, rfl⟩) | (go_at_call 9; refine (rdiff_any _ _ _ (by omega) (by omega) (by omega) (by omega)).mono ?_; rintro e w' ⟨rfl, rfl⟩))
          go_ret
          exact ⟨by simp, Below.refl _ _⟩
        · obtain ⟨g, off, f, rfl, hR⟩ := hA (by omega)
          have p0 : 0 < n := by omega
          have p1 : n ≤ 1000 := by omega
          go_enter Try.func3, Try.ntmps3
          go_wp2_with (first | (go_at_call 4; refine (mean_any _ _ _ _ f _ p0 p1 hR).mono ?_; rintro e w' ⟨rfl, q1, rfl⟩) | (go_at_call 5; refine (rmean_any _ _ _ _ f _ p0 p1 (hR.drewN _)).mono ?_; rintro e w' ⟨rfl, q2, rfl⟩) | (go_at_call 6; refine (norm_any _ _ (by omega) (by omega)).mono ?_; rintro e w' ⟨rfl, rfl⟩) | (go_at_call 7; refine (rnorm_any _ _ (by omega) (by omega)).mono ?_; rintro e w' ⟨rfl, rfl⟩) | (go_at_call 8; refine (diff_any _ _ _ (by omega) (by omega) (by omega) (by omega)).mono ?_; rintro e w' ⟨rfl, rfl⟩) | (go_at_call 9; refine (rdiff_any _ _ _ (by omega) (by omega) (by omega) (by omega)).mono ?_; rintro e w' ⟨rfl, rfl⟩))
          go_ret
          exact ⟨by simp, drewN_below _ _⟩

end Turns
end Go.Proofs.Ytmafjoboikbnnaa
