/-
  The walk of part of the reference: a product divided, rounded down.
-/
import Derived.Test.YtmgehfakcnmdnaaDoorMDivW
namespace Go.Proofs.YtmgehfakcnmdnaaDoor
namespace Dv
open Go.RowKit Lw

/-- The product in two words, and what Div64 makes of it, with plain names. -/
theorem mul_div (x y c : Nat) (hx : x < 18446744073709551616) (hy : y < 18446744073709551616) (hc : c < 18446744073709551616) (h : x * y < c * 18446744073709551616) : ∃ H L : Nat,
    (∀ w, Calls Tryd.prog 20 #[.int .u64 x, .int .u64 y] w fun e w' => e = .returned (.tuple #[.int .u64 (H : Int), .int .u64 (L : Int)]) ∧ w' = w) ∧
    (∀ w, Calls Tryd.prog 22 #[.int .u64 (H : Int), .int .u64 (L : Int), .int .u64 c] w fun e w' => e = .returned (.tuple #[.int .u64 ((x * y / c : Nat) : Int), .int .u64 ((x * y % c : Nat) : Int)]) ∧ Below w.heap.size w w') := by
  refine ⟨x * y / 18446744073709551616, x * y % 18446744073709551616, fun w => Tryd.bits_Mul64 x y hx hy w, fun w => ?_⟩
  have := div_any (x * y / 18446744073709551616) (x * y % 18446744073709551616) c w (Nat.div_lt_of_lt_mul (by rw [Nat.mul_comm 18446744073709551616 c]; exact h)) (Nat.mod_lt _ (by decide)) hc
  rw [show x * y / 18446744073709551616 * 18446744073709551616 + x * y % 18446744073709551616 = x * y from by rw [Nat.mul_comm _ 18446744073709551616]; exact Nat.div_add_mod _ _] at this
  exact this
set_option maxRecDepth 100000 in
set_option maxHeartbeats 4000000 in
theorem part_any (a b c : Nat) (w : World) (ha : a ≤ 9223372036854775807) (hb : b ≤ 9223372036854775807) (hc : c ≤ 9223372036854775807) (h : a * b < c * 18446744073709551616) (hq : a * b / c ≤ 9223372036854775807) :
    Calls Tryd.prog 24 #[.int .i64 a, .int .i64 b, .int .i64 c] w fun e w' => e = .returned (.tuple #[.int .i64 ((a * b / c : Nat) : Int), .bool (decide (0 < a * b % c))]) ∧ Below w.heap.size w w' := by
  obtain ⟨H, L, hM, hD⟩ := mul_div a b c (by omega) (by omega) (by omega) h
  have hr : a * b % c < 9223372036854775808 := Nat.lt_of_le_of_lt (Nat.le_of_lt (Nat.mod_lt _ (Nat.pos_of_ne_zero fun e => by subst e; simp at h))) (by omega)
  generalize a * b / c = q at *
  generalize a * b % c = r at *
  have HM := Lib.hid hM
  have HD := Lib.hid hD
  clear hM hD h
  go_enter Tryd.func24, Tryd.ntmps24
  go_wp2_with fail
  refine (HM.out _).mono ?_
  rintro e w1 ⟨rfl, rfl⟩
  go_wp2_with fail
  refine (HD.out _).mono ?_
  rintro e w2 ⟨rfl, hb2⟩
  go_wp2_with fail
  go_ret2
  exact ⟨rfl, hb2⟩
end Dv
end Go.Proofs.YtmgehfakcnmdnaaDoor
