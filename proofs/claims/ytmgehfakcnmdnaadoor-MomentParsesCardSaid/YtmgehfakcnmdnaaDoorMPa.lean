/-
  Plain mathematics of the calendar and the leap seconds, for any whole numbers; no program in sight.
-/
import Derived.WalkKit
namespace Go.Proofs.YtmgehfakcnmdnaaDoor
namespace Mp

/-- The months, counted from the year 0 on, from which one more leap second is in force. -/
def stepL : List Int := [23670, 23676, 23688, 23700, 23712, 23724, 23736, 23748, 23760, 23778, 23790, 23802, 23826, 23856, 23880, 23892, 23910, 23922, 23934, 23952, 23970, 23988, 24072, 24108, 24150, 24186, 24204]
def stepAt (j : Nat) : Int := stepL.getD j 0
/-- The leap seconds of the first steps that are in force in a month. -/
def lpsTo (k : Int) : Nat → Int
  | 0 => 10
  | i + 1 => lpsTo k i + if stepAt i ≤ k then 1 else 0
def lps (k : Int) : Int := lpsTo k 27
theorem lpsTo_bd (k : Int) (i : Nat) : 10 ≤ lpsTo k i ∧ lpsTo k i ≤ 10 + i := by
  induction i with
  | zero => simp [lpsTo]
  | succ i ih => simp only [lpsTo]; split <;> omega
theorem lps_step : ∀ k : Nat, k < 2000 → lps (23500 + k + 1) ≤ lps (23500 + k) + 1 ∧ lps (23500 + k) ≤ lps (23500 + k + 1) := by decide +kernel
end Mp
end Go.Proofs.YtmgehfakcnmdnaaDoor
