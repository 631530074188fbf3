/-
  Mean of package angle.
-/
import Derived.Test.YtmafjoboikbnnaaDoorTTurn
namespace Go.Proofs.YtmafjoboikbnnaaDoor
namespace Turns
open Go.RowKit
open Pl

/-- What is known of a list in memory: its cells, and that they are int64. -/
structure Row (w : World) (b off n : Nat) (f : Nat → Int) : Prop where
  cell : ∀ j, j < n → w.cell? ⟨b, off + j, none⟩ = some (.int .i64 (f j))
  lo : ∀ j, j < n → -9223372036854775808 ≤ f j
  hi : ∀ j, j < n → f j ≤ 9223372036854775807

set_option maxHeartbeats 400000 in
theorem mean_short (a : Option Addr) (cap : Nat) (w : World) :
    Calls Tryd.prog 19 #[.slice a 0 cap] w fun e w' => e = .returned (.tuple #[.int .i64 0, .int .i64 22]) ∧ w = w' := by
  go_enter Tryd.func19, Tryd.ntmps19
  go_wp2
  go_ret2
  exact ⟨rfl, rfl⟩
set_option maxHeartbeats 400000 in
theorem mean_many (a : Option Addr) (n cap : Nat) (w : World) (hn : 1000 < n) (hm : n ≤ 9223372036854775807) :
    Calls Tryd.prog 19 #[.slice a n cap] w fun e w' => e = .returned (.tuple #[.int .i64 0, .int .i64 4]) ∧ w = w' := by
  have h0 : ((n : Int) == 0) = false := beq_eq_false_iff_ne.2 (by omega)
  have h1 : (1000 : Int) < (n : Int) := by omega
  go_enter Tryd.func19, Tryd.ntmps19
  go_wp2
  go_ret2
  exact ⟨rfl, rfl⟩

set_option maxHeartbeats 400000 in
theorem mean_any (b off n cap : Nat) (f : Nat → Int) (w : World) (hn0 : 0 < n) (hn : n ≤ 1000) (hR : Row w b off n f) :
    Calls Tryd.prog 19 #[.slice (some ⟨b, off, none⟩) n cap] w fun e w' => e = .returned (.tuple #[.int .i64 (mean f n), .int .i64 0]) ∧ ∃ k, w' = w.drewN k := by
  have h0 : ((n : Int) == 0) = false := beq_eq_false_iff_ne.2 (by omega)
  have h1 : ¬ (1000 : Int) < (n : Int) := by omega
  have c0 := hR.cell 0 hn0
  have l0 := hR.lo 0 hn0
  have u0 := hR.hi 0 hn0
  rw [Nat.add_zero] at c0
  go_enter Tryd.func19, Tryd.ntmps19
  go_wp2
  go_loop [4, 6, 19] (fun s x i => ∃ k : Nat, k ≤ n ∧ i = .int .i64 k ∧ s = .int .i64 (sumF f (f 0) k)) (fun _ _ i => n - (intOf i).toNat)
  case atStart => exact ⟨0, Nat.zero_le _, rfl, rfl⟩
  case round =>
    obtain ⟨k, hk, rfl, rfl⟩ := hrel
    have sb := sumF_bd f (f 0) k
    by_cases hlt : k < n
    · have ck := hR.cell k hlt
      have lk := hR.lo k hlt
      have uk := hR.hi k hlt
      have db := dif_bd (f k) (f 0)
      go_wp2_with (go_at_call 15; refine (diff_any _ _ _ (by omega) (by omega) (by omega) (by omega)).mono ?_; rintro e w' ⟨rfl, rfl⟩)
      go_round
      case rel => exact ⟨k + 1, by omega, by go_num, rfl⟩
      case measure => simp [intOf]; omega
    · obtain rfl : k = n := by omega
      have hk0 : (0 : Int) < (k : Int) := by omega
      have hf := tmod_fix (sumF f (f 0) k) k hk0
      have tb := tmod_bd (sumF f (f 0) k) k hk0
      have qb := quo_bd (sumF f (f 0) k) k 648000000000000 hk0 (by omega) (by omega) (by omega)
      have e0 := Int.emod_nonneg (sumF f (f 0) k) (show (k : Int) ≠ 0 by omega)
      have e1 := Int.emod_lt_of_pos (sumF f (f 0) k) hk0
      have qe := Lib.hid (quo_exact (sumF f (f 0) k) k hk0)
      have k1 : ¬ k = 0 := by omega
      have k2 : ¬ (k : Int) = 0 := by omega
      by_cases hc : (sumF f (f 0) k).tmod k < 0
      · rw [if_pos hc] at hf
        have Hf := Lib.hid hf
        clear hf
        go_wp2
        rw [Hf.out]
        have w1 : IntKind.i64.wrap (sumF f (f 0) k - sumF f (f 0) k % k) = sumF f (f 0) k - sumF f (f 0) k % k := IntWalk.i64_in _ (by omega)
        have w2 : IntKind.i64.wrap (sumF f (f 0) k / k) = sumF f (f 0) k / k := IntWalk.i64_in _ (by omega)
        have w3 : IntKind.i64.wrap (f 0 % 1296000000000 + sumF f (f 0) k / k) = f 0 % 1296000000000 + sumF f (f 0) k / k := IntWalk.i64_in _ (by omega)
        have qe' := qe.out
        go_quiet ((go_at_call 14; first | exact quiet_left (norm_any _ _ (by omega) (by omega)) | exact quiet_add_left (norm_any _ _ (by omega) (by omega))))
        go_wp2
        go_ret2
        exact ⟨ret2_int (mean_nrm f k), nq, rfl⟩
      · rw [if_neg hc] at hf
        have Hf := Lib.hid hf
        clear hf
        go_wp2
        rw [Hf.out]
        have w1 : IntKind.i64.wrap (sumF f (f 0) k - sumF f (f 0) k % k) = sumF f (f 0) k - sumF f (f 0) k % k := IntWalk.i64_in _ (by omega)
        have w2 : IntKind.i64.wrap (sumF f (f 0) k / k) = sumF f (f 0) k / k := IntWalk.i64_in _ (by omega)
        have w3 : IntKind.i64.wrap (f 0 % 1296000000000 + sumF f (f 0) k / k) = f 0 % 1296000000000 + sumF f (f 0) k / k := IntWalk.i64_in _ (by omega)
        have qe' := qe.out
        go_quiet ((go_at_call 14; first | exact quiet_left (norm_any _ _ (by omega) (by omega)) | exact quiet_add_left (norm_any _ _ (by omega) (by omega))))
        go_wp2
        go_ret2
        exact ⟨ret2_int (mean_nrm f k), nq, rfl⟩
end Turns
end Go.Proofs.YtmafjoboikbnnaaDoor
