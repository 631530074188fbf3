/-
  Plain facts on Go's quotient and remainder of integers, for any integers; no program in sight.
-/
import Derived.WalkKit
import Derived.Deep.QuietTactic
namespace Go.Proofs.YtmafjoboikbnnaaDoor
namespace Pl
open Go.RowKit

theorem ret_int {k : IntKind} {a b : Int} (h : a = b) : Ending.returned (.int k a) = .returned (.int k b) := by rw [h]

theorem quiet_add {P : Program} {f : FuncId} {args : Array Value} {w : World} {a n : Nat} {v : Value}
    (h : Calls P f args (w.drewN (a + n)) fun e w' => e = .returned v ∧ ∃ m, w' = (w.drewN (a + n)).drewN m) :
    Calls P f args (w.drewN (a + n)) fun e w'' => e = .returned v ∧ ∃ m, w'' = w.drewN (a + m) :=
  h.mono fun _ _ ⟨he, m, hm⟩ => ⟨he, n + m, by rw [hm, World.drewN_drewN, Nat.add_assoc]⟩
theorem quiet_add_left {P : Program} {f : FuncId} {args : Array Value} {w : World} {a n : Nat} {v : Value}
    (h : Calls P f args (w.drewN (a + n)) fun e w' => e = .returned v ∧ w.drewN (a + n) = w') :
    Calls P f args (w.drewN (a + n)) fun e w'' => e = .returned v ∧ ∃ m, w'' = w.drewN (a + m) :=
  h.mono fun _ _ ⟨he, hm⟩ => ⟨he, n, hm.symm⟩
theorem quiet_left {P : Program} {f : FuncId} {args : Array Value} {w : World} {n : Nat} {v : Value}
    (h : Calls P f args (w.drewN n) fun e w' => e = .returned v ∧ w.drewN n = w') : Calls P f args (w.drewN n) fun e w'' => e = .returned v ∧ ∃ m, w'' = w.drewN m :=
  h.mono fun _ _ ⟨he, hm⟩ => ⟨he, n, hm.symm⟩

theorem tmod_fix (a n : Int) (hn : 0 < n) : (if a.tmod n < 0 then a.tmod n + n else a.tmod n) = a % n := by
  have h1 := Int.tmod_eq_emod (a := a) (b := n)
  have h2 := Int.emod_nonneg a (show n ≠ 0 by omega)
  have h3 := Int.emod_lt_of_pos a hn
  by_cases h : 0 ≤ a ∨ n ∣ a
  · rw [if_pos h] at h1
    rw [if_neg (by omega)]; omega
  · rw [if_neg h] at h1
    have : (n.natAbs : Int) = n := by omega
    rw [if_pos (by omega)]; omega

theorem tdiv_fix (a n : Int) (hn : 0 < n) : (if a.tmod n < 0 then a.tdiv n - 1 else a.tdiv n) = a / n := by
  have h1 := Int.tmod_eq_emod (a := a) (b := n)
  have h4 := Int.tdiv_eq_ediv (a := a) (b := n)
  have h2 := Int.emod_nonneg a (show n ≠ 0 by omega)
  have h3 := Int.emod_lt_of_pos a hn
  by_cases h : 0 ≤ a ∨ n ∣ a
  · rw [if_pos h] at h1 h4
    rw [if_neg (by omega)]; omega
  · rw [if_neg h] at h1 h4
    have : (n.natAbs : Int) = n := by omega
    have : n.sign = 1 := Int.sign_eq_one_of_pos hn
    rw [if_pos (by omega)]; omega

theorem tmod_bd (a n : Int) (hn : 0 < n) : -n < a.tmod n ∧ a.tmod n < n := ⟨Int.lt_tmod_of_pos a hn, Int.tmod_lt_of_pos a hn⟩

/-- A difference of two angles, at most half a turn. -/
def dif (a b : Int) : Int := if 1296000000000 < 2 * ((a - b) % 1296000000000) then (a - b) % 1296000000000 - 1296000000000 else (a - b) % 1296000000000
theorem dif_bd (a b : Int) : -648000000000 ≤ dif a b ∧ dif a b ≤ 648000000000 := by unfold dif; split <;> omega
theorem sub_nrm (a b : Int) : (a % 1296000000000 - b % 1296000000000) % 1296000000000 = (a - b) % 1296000000000 := by omega
/-- The sum of the differences of the first elements and one angle. -/
def sumF (f : Nat → Int) (x : Int) : Nat → Int
  | 0 => 0
  | k + 1 => sumF f x k + dif (f k) x
theorem sumF_bd (f : Nat → Int) (x : Int) (k : Nat) : -648000000000 * (k : Int) ≤ sumF f x k ∧ sumF f x k ≤ 648000000000 * (k : Int) := by
  induction k with
  | zero => simp [sumF]
  | succ k ih => have := dif_bd (f k) x; simp only [sumF]; omega
/-- The mean of the first elements. -/
def mean (f : Nat → Int) (n : Nat) : Int := (f 0 + sumF f (f 0) n / n) % 1296000000000
theorem mean_nrm (f : Nat → Int) (n : Nat) : (f 0 % 1296000000000 + sumF f (f 0) n / n) % 1296000000000 = mean f n := by unfold mean; omega
theorem ret2_int {k k' : IntKind} {a b c : Int} (h : a = b) : Ending.returned (.tuple #[.int k a, .int k' c]) = .returned (.tuple #[.int k b, .int k' c]) := by rw [h]
theorem quo_exact (s n : Int) (hn : 0 < n) : (s - s % n).tdiv n = s / n := by
  have h := Int.emod_add_mul_ediv s n
  have e : s - s % n = n * (s / n) := by omega
  rw [e, Int.mul_tdiv_cancel_left _ (by omega)]
theorem quo_bd (s n : Int) (B : Int) (hn : 0 < n) (h0 : -B ≤ s) (h1 : s ≤ B) (hB : 0 ≤ B) : -B ≤ s / n ∧ s / n ≤ B := by
  constructor
  · rw [Int.le_ediv_iff_mul_le hn]
    have := Int.mul_le_mul_of_nonneg_left (show (1 : Int) ≤ n by omega) hB
    have e : -B * n = -(B * n) := Int.neg_mul ..
    omega
  · refine Int.le_trans (Int.ediv_le_ediv hn h1) ?_
    exact Int.ediv_le_self _ hB
end Pl
end Go.Proofs.YtmafjoboikbnnaaDoor
