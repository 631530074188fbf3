/-
  Texts of angles: RaText, DecText and DegText of package angle.
-/
import Derived.Test.YtmafjoboikbnnaaDoorTClk
import Derived.Test.YtmafjoboikbnnaaDoorPDSpec
import Derived.Test.YtmafjoboikbnnaaDoorTTurn
namespace Go.Proofs.YtmafjoboikbnnaaDoor
namespace At
open Go.RowKit Lw Ap

/-- The parts of an angle, rounded. -/
def rndN (a u : Nat) : Nat := (rndI a u).toNat
theorem rndN_eq (a u : Nat) : ((rndN a u : Nat) : Int) = rndI a u := by
  have : 0 ≤ rndI a u := by
    unfold rndI
    have : (0 : Int) ≤ (a : Int) / u := Int.ediv_nonneg (by omega) (by omega)
    split <;> omega
  unfold rndN
  omega
theorem rndN_le (a u : Nat) (hu : 1 ≤ u) : rndN a u ≤ a + 1 := by
  have h := rndN_eq a u
  have : (a : Int) / u ≤ a := Int.ediv_le_self _ (by omega)
  unfold rndI at h
  split at h <;> omega
theorem clock_len (n d : Nat) (hn : n ≤ 1000000000000) (hd : d ≤ 18) : (clockL n d).length ≤ 180 := by
  have m1 : n / 10 ^ d ≤ n := Nat.div_le_self _ _
  have m3 : n % 10 ^ d ≤ n := Nat.mod_le _ _
  unfold clockL
  generalize n / 10 ^ d = s at *
  generalize n % 10 ^ d = r at *
  have q1 : s / 3600 ≤ s := Nat.div_le_self _ _
  have g := glue_len ((s / 3600 : Nat) : Int) ((s / 60 % 60 : Nat) : Int) ((s % 60 : Nat) : Int) (by omega) (by omega) (by omega) (by omega) (by omega) (by omega)
  have p := pad_len (r : Int) d (by omega) (by omega) (by omega)
  rw [List.length_append]
  split
  · rw [List.length_cons]; omega
  · simp only [List.length_nil]; omega
/-- The text of a right ascension: so many digits. -/
def raL (a : Int) (d : Nat) : List UInt8 := clockL (rndN (a % 1296000000000).toNat (15000000 / 10 ^ d) % (86400 * 10 ^ d)) d
theorem ra_letters (a : Int) (d : Nat) (hd : d ≤ 6) : ∃ p u m r n : Nat, 10 ^ d = p ∧ 15000000 / p = u ∧ (a % 1296000000000) = (m : Int) ∧ rndN m u = r ∧ r % (86400 * p) = n ∧ 1 ≤ p ∧ p ≤ 1000000 ∧ 1 ≤ u ∧ u ≤ 15000000 ∧ m < 1296000000000 ∧ r ≤ 1296000000000 ∧ n ≤ 86400000000 ∧ raL a d = clockL n d := by
  have hm := Int.emod_nonneg a (show (1296000000000 : Int) ≠ 0 by omega)
  have hm2 := Int.emod_lt_of_pos a (show (0 : Int) < 1296000000000 by omega)
  have hp : ∀ d : Nat, d ≤ 6 → 1 ≤ 10 ^ d ∧ 10 ^ d ≤ 1000000 ∧ 1 ≤ 15000000 / 10 ^ d ∧ 15000000 / 10 ^ d ≤ 15000000 := by decide
  obtain ⟨h1, h2, h3, h4⟩ := hp d hd
  have hr := rndN_le (a % 1296000000000).toNat (15000000 / 10 ^ d) h3
  have hn : rndN (a % 1296000000000).toNat (15000000 / 10 ^ d) % (86400 * 10 ^ d) ≤ 86400000000 := by
    have := Nat.mod_lt (rndN (a % 1296000000000).toNat (15000000 / 10 ^ d)) (show 0 < 86400 * 10 ^ d by omega)
    omega
  exact ⟨_, _, (a % 1296000000000).toNat, _, _, rfl, rfl, by omega, rfl, rfl, h1, h2, h3, h4, by omega, by omega, hn, rfl⟩
set_option maxRecDepth 100000 in
set_option maxHeartbeats 4000000 in
theorem ratext_any (a : Int) (d : Nat) (w : World) (hT : Tab w) (h0 : -9223372036854775808 ≤ a) (h1 : a ≤ 9223372036854775807) (hd : d ≤ 6) :
    Calls Tryd.prog 16 #[.int .i64 a, .int .i64 d] w fun e w' => e = .returned (.tuple #[.string ⟨(raL a d).toArray⟩, .int .i64 0]) ∧ Below w.heap.size w w' := by
  obtain ⟨p, u, m, r, n, e1, e2, e3, e4, e5, p1, p2, u1, u2, m1, r1, n1, K⟩ := ra_letters a d hd
  have hT := Lib.hid hT
  have K := Lib.hid K
  have NT : ∀ w : World, Calls Tryd.prog 24 #[.int .i64 d] w fun e w' => e = .returned (.int .i64 (p : Int)) ∧ w = w' := fun w => by rw [← e1]; exact ten_any d w (by omega)
  have NN : ∀ w : World, Calls Tryd.prog 14 #[.int .i64 a] w fun e w' => e = .returned (.int .i64 (m : Int)) ∧ w = w' := fun w => by rw [← e3]; exact Turns.norm_any a w h0 h1
  have NR : ∀ w : World, Calls Tryd.prog 32 #[.int .i64 (m : Int), .int .i64 (u : Int)] w fun e w' => e = .returned (.int .i64 (r : Int)) ∧ ∃ k, w' = w.drewN k := fun w => by rw [← e4, rndN_eq]; exact round_any m u w (by omega) (by omega) (by omega)
  have t1 : (15000000 : Int).tdiv (p : Int) = (u : Int) := by rw [← e2]; rfl
  have t2 : (r : Int).tmod (86400 * (p : Int)) = (n : Int) := by rw [← e5]; rfl
  have m0 : ¬ (d : Int) < 0 := by omega
  have m6 : ¬ (6 : Int) < d := by omega
  have p0 : (p : Int) ≠ 0 := by omega
  have p8 : (86400 * (p : Int)) ≠ 0 := by omega
  have NC : ∀ k, Calls Tryd.prog 35 #[.int .i64 n, .int .i64 d] (w.drewN k) fun e w' => e = .returned (.string ⟨(clockL n d).toArray⟩) ∧ Below w.heap.size w w' := fun k =>
    (clock_any n d (w.drewN k) (hT.out.below (drewN_below2 (Below.refl _ _) k)) (by omega) (by omega)).mono fun _ _ ⟨x, y⟩ => ⟨x, (drewN_below2 (Below.refl w.heap.size w) k).trans y⟩
  clear e1 e2 e3 e4 e5
  go_enter Tryd.func16, Tryd.ntmps16
  go_wp2_with (go_at_call 24; refine (NT _).mono ?_; rintro e w' ⟨rfl, rfl⟩)
  go_quiet ((first | (go_at_call 14; first | exact quiet_left (NN _) | exact quiet_add_left (NN _)) | (go_at_call 32; first | exact quiet_more NR | exact quiet_add_more NR)))
  go_wp2_with fail
  go_at_call 35
  refine (NC _).mono ?_
  rintro e w2 ⟨rfl, hB⟩
  go_wp2_with fail
  go_ret2
  exact ⟨by rw [K.out]; rfl, hB⟩
/-- The text of a declination. -/
def decL (a : Int) (d : Nat) : List UInt8 := (if a < 0 then 45 else 43) :: clockL (rndN a.natAbs (1000000 / 10 ^ d)) d
theorem dec_lets (m d : Nat) (hm : m ≤ 324000000000) (hd : d ≤ 6) : ∃ p u r : Nat, 10 ^ d = p ∧ 1000000 / p = u ∧ rndN m u = r ∧ 1 ≤ p ∧ p ≤ 1000000 ∧ 1 ≤ u ∧ u ≤ 1000000 ∧ r ≤ 324000000001 ∧ rndN m (1000000 / 10 ^ d) = r := by
  have hp : ∀ d : Nat, d ≤ 6 → 1 ≤ 10 ^ d ∧ 10 ^ d ≤ 1000000 ∧ 1 ≤ 1000000 / 10 ^ d ∧ 1000000 / 10 ^ d ≤ 1000000 := by decide
  obtain ⟨h1, h2, h3, h4⟩ := hp d hd
  have hr := rndN_le m (1000000 / 10 ^ d) h3
  exact ⟨_, _, _, rfl, rfl, rfl, h1, h2, h3, h4, by omega, rfl⟩
set_option maxRecDepth 100000 in
set_option maxHeartbeats 4000000 in
theorem dectext_any (a : Int) (d : Nat) (w : World) (hT : Tab w) (h0 : -324000000000 ≤ a) (h1 : a ≤ 324000000000) (hd : d ≤ 6) :
    Calls Tryd.prog 17 #[.int .i64 a, .int .i64 d] w fun e w' => e = .returned (.tuple #[.string ⟨(decL a d).toArray⟩, .int .i64 0]) ∧ Below w.heap.size w w' := by
  obtain ⟨m, em⟩ : ∃ m : Nat, a.natAbs = m := ⟨_, rfl⟩
  obtain ⟨p, u, r, e1, e2, e3, p1, p2, u1, u2, r1, eK⟩ := dec_lets m d (by omega) hd
  have hT := Lib.hid hT
  have NT : ∀ w : World, Calls Tryd.prog 24 #[.int .i64 d] w fun e w' => e = .returned (.int .i64 (p : Int)) ∧ w = w' := fun w => by rw [← e1]; exact ten_any d w (by omega)
  have NR : ∀ w : World, Calls Tryd.prog 32 #[.int .i64 (m : Int), .int .i64 (u : Int)] w fun e w' => e = .returned (.int .i64 (r : Int)) ∧ ∃ k, w' = w.drewN k := fun w => by rw [← e3, rndN_eq]; exact round_any m u w (by omega) (by omega) (by omega)
  have t1 : (1000000 : Int).tdiv (p : Int) = (u : Int) := by rw [← e2]; rfl
  have m0 : ¬ (d : Int) < 0 := by omega
  have m6 : ¬ (6 : Int) < d := by omega
  have p0 : (p : Int) ≠ 0 := by omega
  have NC : ∀ k, Calls Tryd.prog 35 #[.int .i64 r, .int .i64 d] (w.drewN k) fun e w' => e = .returned (.string ⟨(clockL r d).toArray⟩) ∧ Below w.heap.size w w' := fun k =>
    (clock_any r d (w.drewN k) (hT.out.below (drewN_below2 (Below.refl _ _) k)) (by omega) (by omega)).mono fun _ _ ⟨x, y⟩ => ⟨x, (drewN_below2 (Below.refl w.heap.size w) k).trans y⟩
  have CL := clock_len r d (by omega) (by omega)
  by_cases hn : a < 0
  · have ea : a = -(m : Int) := by omega
    have K : Hid (decL a d = 45 :: clockL r d) := Lib.hid (by unfold decL; rw [if_pos hn, em, eK])
    have en : -a = (m : Int) := by omega
    have sa := str_app [45] (clockL r d)
    generalize clockL r d = g at *
    clear e1 e2 e3 ea eK em
    go_enter Tryd.func17, Tryd.ntmps17
    go_wp2_with (first | (go_at_call 24; refine (NT _).mono ?_; rintro e w' ⟨rfl, rfl⟩) | (go_at_call 32; refine (NR _).mono ?_; rintro e w' ⟨rfl, k, rfl⟩) | (go_at_call 35; refine (NC _).mono ?_; rintro e w2 ⟨rfl, hB⟩))
    go_ret2
    exact ⟨by rw [K.out]; rfl, hB⟩
  · have ea : a = (m : Int) := by omega
    have K : Hid (decL a d = 43 :: clockL r d) := Lib.hid (by unfold decL; rw [if_neg hn, em, eK])
    have sa := str_app [43] (clockL r d)
    generalize clockL r d = g at *
    clear e1 e2 e3 eK em
    go_enter Tryd.func17, Tryd.ntmps17
    go_wp2_with (first | (go_at_call 24; refine (NT _).mono ?_; rintro e w' ⟨rfl, rfl⟩) | (go_at_call 32; refine (NR _).mono ?_; rintro e w' ⟨rfl, k, rfl⟩) | (go_at_call 35; refine (NC _).mono ?_; rintro e w2 ⟨rfl, hB⟩))
    go_ret2
    exact ⟨by rw [K.out]; rfl, hB⟩
end At
end Go.Proofs.YtmafjoboikbnnaaDoor
