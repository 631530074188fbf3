/-
  The reference's common divisor with 3,600,000,000.
-/
import Derived.Test.YtmafjoboikbnnaaDoorPRnd
namespace Go.Proofs.YtmafjoboikbnnaaDoor
namespace Ap
open Go.RowKit Lw

set_option maxHeartbeats 1000000 in
theorem common_any (a0 : Nat) (w : World) (h : 0 < a0) (ha : a0 ≤ 1000000000000000000) :
    Calls Tryd.prog 33 #[.int .i64 a0] w fun e w' => e = .returned (.int .i64 (Nat.gcd a0 3600000000 : Nat)) ∧ Below w.heap.size w w' := by
  go_enter Tryd.func33, Tryd.ntmps33
  go_wp2
  go_loopw [0, 3] (fun x y wr => ∃ a b : Nat, x = .int .i64 a ∧ y = .int .i64 b ∧ Hid (Nat.gcd a b = Nat.gcd a0 3600000000) ∧ a ≤ 1000000000000000000 ∧ b ≤ 1000000000000000000 ∧ Below w.heap.size w wr) (fun _ y _ => (intOf y).toNat)
  case atStart => exact ⟨a0, 3600000000, rfl, rfl, Lib.hid rfl, ha, by omega, Below.refl _ _⟩
  case round =>
    obtain ⟨a, b, rfl, rfl, G, ba, bb, hB⟩ := hrel
    by_cases hb : 0 < b
    · have t2 : (a : Int).tmod (b : Int) = ((a % b : Nat) : Int) := rfl
      have m1 : a % b < b := Nat.mod_lt _ hb
      have hb0 : (b : Int) ≠ 0 := by omega
      have G2 := Lib.hid (show Nat.gcd b (a % b) = Nat.gcd a0 3600000000 by rw [← G.out, Nat.gcd_comm b (a % b), ← Nat.gcd_rec, Nat.gcd_comm])
      generalize hr : a % b = r at *
      clear hr
      go_wp2
      go_quiet (fail)
      go_wp2
      go_roundw
      case rel => exact ⟨b, r, rfl, rfl, G2, bb, by omega, drewN_below2 hB _⟩
      case measure => simp [intOf]; omega
    · obtain rfl : b = 0 := by omega
      have G2 := Lib.hid (show (a : Int) = (Nat.gcd a0 3600000000 : Nat) by rw [← G.out, Nat.gcd_zero_right])
      go_wp2
      go_ret
      exact ⟨ret_i G2.out, hB⟩
end Ap
end Go.Proofs.YtmafjoboikbnnaaDoor
