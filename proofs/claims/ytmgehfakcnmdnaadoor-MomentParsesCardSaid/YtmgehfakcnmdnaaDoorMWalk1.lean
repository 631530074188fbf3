/-
  The walks of the calendar's functions of package moment and of the reference.
-/
import Derived.Test.YtmgehfakcnmdnaaDoorRows
import Derived.Test.YtmgehfakcnmdnaaDoorMPl
import Derived.Test.YtmgehfakcnmdnaaDoorLaw
import Derived.WalkKit
import Derived.ProofKit
import Derived.Outline
import Derived.Lib.Hide
import Derived.Deep.QuietTactic
import Derived.BigQuiet
import Derived.WalkLawsBesides
import Derived.WalkSpells
namespace Go.Proofs.YtmgehfakcnmdnaaDoor
namespace Mw
open Go.RowKit Mp Lw

def stepV : Array Value := #[.int .i64 23670, .int .i64 23676, .int .i64 23688, .int .i64 23700, .int .i64 23712, .int .i64 23724, .int .i64 23736, .int .i64 23748, .int .i64 23760, .int .i64 23778, .int .i64 23790, .int .i64 23802, .int .i64 23826, .int .i64 23856, .int .i64 23880, .int .i64 23892, .int .i64 23910, .int .i64 23922, .int .i64 23934, .int .i64 23952, .int .i64 23970, .int .i64 23988, .int .i64 24072, .int .i64 24108, .int .i64 24150, .int .i64 24186, .int .i64 24204]

theorem info_row : (Tryd.prog.info? 75).map (·.size) = some 27 := by kernel_rfl
theorem one_row : stepV.all (·.oneCell') = true := by simp [stepV, Value.oneCell']
set_option maxRecDepth 100000 in
set_option maxHeartbeats 400000 in
theorem steps_any (w : World) :
    Calls Tryd.prog 49 #[] w fun e w' => e = .returned (.agg stepV) ∧ Below w.heap.size w w' := by
  go_enter Tryd.func49, Tryd.ntmps49
  go_wp2_with (refine wpList_store_new rfl _ (.tmp 0) (.tmp 1) rfl _ stepV rfl rfl info_row (by decide) one_row ?_)
  refine bodyPost_ret (v := .agg stepV) (results_cell_row Tryd.results49 _ _ w.heap.size _ stepV _ _ rfl (heap_alloc_last w _) Tryd.underlying75 rfl info_row) rfl ⟨rfl, (Below.refl _ _).alloc (Nat.le_refl _) _⟩
theorem stepV_at (k : Nat) (hk : k < 27) : stepV[k]? = some (.int .i64 (stepAt k)) := by
  unfold stepAt
  have : stepV = (stepL.map (Value.int .i64)).toArray := rfl
  rw [this]
  simp [List.getD, List.getElem?_eq_getElem (show k < stepL.length from hk)]
set_option maxRecDepth 100000 in
set_option maxHeartbeats 400000 in
theorem leap_any (k : Int) (w : World) :
    Calls Tryd.prog 36 #[.int .i64 k] w fun e w' => e = .returned (.int .i64 (lps k)) ∧ Below w.heap.size w w' := by
  go_enter Tryd.func36, Tryd.ntmps36
  go_wp2_with (first | (go_at_call 49; refine (steps_any _).mono ?_; rintro e w1 ⟨rfl, hb⟩) | (refine wpList_store_new rfl _ (.tmp 3) (.tmp 6) rfl _ stepV rfl rfl info_row (by decide) one_row ?_))
  have hc : ∀ j, j < 27 → (w1.alloc (.cells stepV 75)).cell? ⟨w1.heap.size, j, none⟩ = some (.int .i64 (stepAt j)) := fun j hj => by
    rw [World.cell?_alloc_at _ _ _ _ rfl, stepV_at j hj]
  have Hb := Lib.hid hb
  clear hb
  go_loop [4, 5, 7] (fun n x i => ∃ j : Nat, j ≤ 27 ∧ i = .int .i64 j ∧ n = .int .i64 (lpsTo k j)) (fun _ _ i => 27 - (intOf i).toNat)
  case atStart => exact ⟨0, by omega, rfl, rfl⟩
  case round =>
    obtain ⟨j, hj, rfl, rfl⟩ := hrel
    have lb := lpsTo_bd k j
    by_cases hlt : j < 27
    · have ck := hc j hlt
      have es : lpsTo k (j + 1) = lpsTo k j + if stepAt j ≤ k then 1 else 0 := rfl
      have i1 : (j : Int) < 27 := by omega
      by_cases ht : stepAt j ≤ k
      · rw [if_pos ht] at es
        have Es := Lib.hid es
        clear es hc
        go_wp2
        go_round
        case rel => exact ⟨j + 1, by omega, by go_num, by rw [Es.out]⟩
        case measure => simp [intOf]; omega
      · rw [if_neg ht] at es
        have Es := Lib.hid es
        clear es hc
        go_wp2
        go_round
        case rel => exact ⟨j + 1, by omega, by go_num, by rw [Es.out]; simp⟩
        case measure => simp [intOf]; omega
    · obtain rfl : j = 27 := by omega
      go_wp2
      go_ret
      exact ⟨rfl, (Hb.out.alloc Hb.out.size _)⟩
end Mw
end Go.Proofs.YtmgehfakcnmdnaaDoor
