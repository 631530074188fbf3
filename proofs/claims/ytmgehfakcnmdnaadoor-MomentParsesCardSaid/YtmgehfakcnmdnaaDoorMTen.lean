/-
  Powers of ten: package moment and the reference.
-/
import Derived.Test.YtmgehfakcnmdnaaDoorMNum
import Derived.Deep.QuietTactic
import Derived.BigQuiet
import Derived.WalkLawsBesides
import Derived.WalkSpells
namespace Go.Proofs.YtmgehfakcnmdnaaDoor
namespace Ap
open Go.RowKit Lw

/-- A power of ten. -/
def tenI (k : Nat) : Int := (10 ^ k : Nat)
theorem tenI_s (k : Nat) : tenI (k + 1) = tenI k * 10 := by unfold tenI; rw [Nat.pow_succ]; omega
theorem tenI_bd : ∀ k : Nat, k ≤ 18 → 1 ≤ tenI k ∧ tenI k ≤ 1000000000000000000 := by decide
theorem tenI_17 : ∀ k : Nat, k < 18 → 1 ≤ tenI k ∧ tenI k ≤ 100000000000000000 := by decide

theorem val_u {a b : Int} (h : a = b) : Value.int .u64 a = .int .u64 b := by rw [h]
set_option maxHeartbeats 400000 in
theorem ten_any (n : Nat) (w : World) (hn : n ≤ 18) :
    Calls Tryd.prog 23 #[.int .i64 n] w fun e w' => e = .returned (.int .u64 (tenI n)) ∧ w = w' := by
  go_enter Tryd.func23, Tryd.ntmps23
  go_wp2
  go_loop [3, 5] (fun p i => ∃ k : Nat, k ≤ n ∧ i = .int .i64 k ∧ p = .int .u64 (tenI k)) (fun _ i => n - (intOf i).toNat)
  case atStart => exact ⟨0, Nat.zero_le _, rfl, rfl⟩
  case round =>
    obtain ⟨k, hk, rfl, rfl⟩ := hrel
    by_cases hlt : k < n
    · have nb := tenI_17 k (by omega)
      have HS := Lib.hid (tenI_s k)
      go_wp2
      go_round
      case rel => exact ⟨k + 1, by omega, by go_num, val_u HS.out.symm⟩
      case measure => simp [intOf]; omega
    · obtain rfl : k = n := by omega
      go_wp2
      go_ret
      exact ⟨rfl, rfl⟩

set_option maxHeartbeats 400000 in
theorem rten_any (n : Nat) (w : World) (hn : n ≤ 18) :
    Calls Tryd.prog 14 #[.int .i64 n] w fun e w' => e = .returned (.int .i64 (tenI n)) ∧ w = w' := by
  go_enter Tryd.func14, Tryd.ntmps14
  go_wp2
  go_loop [3, 4] (fun p i => ∃ k : Nat, k ≤ n ∧ i = .int .i64 k ∧ p = .int .i64 (tenI k)) (fun _ i => n - (intOf i).toNat)
  case atStart => exact ⟨0, Nat.zero_le _, rfl, rfl⟩
  case round =>
    obtain ⟨k, hk, rfl, rfl⟩ := hrel
    by_cases hlt : k < n
    · have nb := tenI_17 k (by omega)
      have HS := Lib.hid (show tenI (k + 1) = 10 * tenI k by rw [tenI_s]; omega)
      go_wp2
      go_round
      case rel => exact ⟨k + 1, by omega, by go_num, val_i HS.out.symm⟩
      case measure => simp [intOf]; omega
    · obtain rfl : k = n := by omega
      go_wp2
      go_ret
      exact ⟨rfl, rfl⟩
end Ap
end Go.Proofs.YtmgehfakcnmdnaaDoor
