/-
  Rounding: package angle and the reference.
-/
import Derived.Test.YtmafjoboikbnnaaDoorPTen
import Derived.Laws.BitsAllLaws
namespace Go.Proofs.YtmafjoboikbnnaaDoor
namespace Ap
open Go.RowKit Lw

theorem and_one (q : Nat) (hq : q ≤ 1000000000000000000) : bits .and .i64 (q : Int) 1 = (q : Int) % 2 := by
  show IntKind.i64.wrap ((BitVec.ofInt 64 (q : Int) &&& BitVec.ofInt 64 1).toNat : Int) = _
  have e : (BitVec.ofInt 64 (q : Int)).toNat = q := ofInt_u64 q (by omega)
  have e1 : (BitVec.ofInt 64 1).toNat = 1 := by decide
  rw [BitVec.toNat_and, e, e1, nat_mask1, IntWalk.i64_in _ (by omega)]
  omega
set_option maxRecDepth 100000 in
set_option maxHeartbeats 1000000 in
theorem round_any (a u : Nat) (w : World) (hu : 0 < u) (ha : a ≤ 1000000000000000000) (hu2 : u ≤ 1000000000000000000) :
    Calls Tryd.prog 32 #[.int .i64 a, .int .i64 u] w fun e w' => e = .returned (.int .i64 (rndI a u)) ∧ ∃ m, w' = w.drewN m := by
  have t1 : (a : Int).tdiv (u : Int) = ((a / u : Nat) : Int) := rfl
  have t2 : (a : Int).tmod (u : Int) = ((a % u : Nat) : Int) := rfl
  have m1 : a % u < u := Nat.mod_lt _ hu
  have m2 : a / u ≤ a := Nat.div_le_self _ _
  have hu0 : (u : Int) ≠ 0 := by omega
  have R := Lib.hid (show rndI a u = ((a / u : Nat) : Int) + (if (u : Int) < 2 * ((a % u : Nat) : Int) ∨ (2 * ((a % u : Nat) : Int) = u ∧ ((a / u : Nat) : Int) % 2 = 1) then 1 else 0) from rfl)
  generalize hq : a / u = q at *
  generalize hr : a % u = r at *
  clear hq hr
  have t3 := and_one q (by omega)
  by_cases h2 : 2 * r = u
  · have hs : (u : Int) - (r : Int) = r := by omega
    go_enter Tryd.func32, Tryd.ntmps32
    go_wp2
    go_quiet (fail)
    go_wp2
    all_goals
      go_ret
      refine ⟨ret_i ?_, _, rfl⟩
      rw [R.out]
      simp only [beq_iff_eq, beq_eq_false_iff_ne, ne_eq] at *
      split <;> omega
  · have hs : ((r : Int) == (u : Int) - (r : Int)) = false := beq_eq_false_iff_ne.2 (by omega)
    go_enter Tryd.func32, Tryd.ntmps32
    go_wp2
    go_quiet (fail)
    go_wp2
    all_goals
      go_ret
      refine ⟨ret_i ?_, _, rfl⟩
      rw [R.out]
      simp only [beq_iff_eq, beq_eq_false_iff_ne, ne_eq] at *
      split <;> omega

set_option maxHeartbeats 1000000 in
theorem rrounded_any (a u : Nat) (w : World) (hu : 0 < u) (ha : a ≤ 1000000000000000000) (hu2 : u ≤ 1000000000000000000) :
    Calls Tryd.prog 34 #[.int .i64 a, .int .i64 u] w fun e w' => e = .returned (.int .i64 (rndI a u)) ∧ ∃ m, w' = w.drewN m := by
  have t1 : (a : Int).tdiv (u : Int) = ((a / u : Nat) : Int) := rfl
  have t2 : (a : Int).tmod (u : Int) = ((a % u : Nat) : Int) := rfl
  have m1 : a % u < u := Nat.mod_lt _ hu
  have m2 : a / u ≤ a := Nat.div_le_self _ _
  have hu0 : (u : Int) ≠ 0 := by omega
  have R := Lib.hid (show rndI a u = ((a / u : Nat) : Int) + (if (u : Int) < 2 * ((a % u : Nat) : Int) ∨ (2 * ((a % u : Nat) : Int) = u ∧ ((a / u : Nat) : Int) % 2 = 1) then 1 else 0) from rfl)
  generalize hq : a / u = q at *
  generalize hr : a % u = r at *
  clear hq hr
  have t3 : (q : Int).tmod 2 = (q : Int) % 2 := Int.tmod_eq_emod_of_nonneg (by omega)
  go_enter Tryd.func34, Tryd.ntmps34
  go_wp2
  go_quiet (fail)
  go_wp2
  all_goals
    go_ret
    refine ⟨ret_i ?_, _, rfl⟩
    rw [R.out]
    simp only [beq_iff_eq, beq_eq_false_iff_ne, ne_eq] at *
    split <;> omega
end Ap
end Go.Proofs.YtmafjoboikbnnaaDoor
