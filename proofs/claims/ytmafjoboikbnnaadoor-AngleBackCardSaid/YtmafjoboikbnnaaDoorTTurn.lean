/-
  Norm and Diff of package angle, Norm of the reference.
-/
import Derived.Test.YtmafjoboikbnnaaDoorRows
import Derived.Test.YtmafjoboikbnnaaDoorPl
import Derived.WalkKit
import Derived.ProofKit
import Derived.Outline
import Derived.Lib.Hide
import Derived.Deep.QuietTactic
import Derived.BigQuiet
import Derived.WalkLawsBesides
import Derived.WalkSpells
namespace Go.Proofs.YtmafjoboikbnnaaDoor
namespace Turns
open Go.RowKit

open Pl
set_option maxHeartbeats 400000 in
theorem norm_any (a : Int) (w : World) (h0 : -9223372036854775808 ≤ a) (h1 : a ≤ 9223372036854775807) :
    Calls Tryd.prog 14 #[.int .i64 a] w fun e w' => e = .returned (.int .i64 (a % 1296000000000)) ∧ w = w' := by
  have hf := Pl.tmod_fix a 1296000000000 (by omega)
  obtain ⟨hb1, hb2⟩ := Pl.tmod_bd a 1296000000000 (by omega)
  by_cases hc : a.tmod 1296000000000 < 0
  · rw [if_pos hc] at hf
    have Hf := Lib.hid hf
    clear hf
    go_enter Tryd.func14, Tryd.ntmps14
    go_wp2
    go_ret
    exact ⟨ret_int Hf.out, rfl⟩
  · rw [if_neg hc] at hf
    have Hf := Lib.hid hf
    clear hf
    go_enter Tryd.func14, Tryd.ntmps14
    go_wp2
    go_ret
    exact ⟨ret_int Hf.out, rfl⟩

set_option maxHeartbeats 400000 in
theorem rnorm_any (a : Int) (w : World) (h0 : -9223372036854775808 ≤ a) (h1 : a ≤ 9223372036854775807) :
    Calls Tryd.prog 22 #[.int .i64 a] w fun e w' => e = .returned (.int .i64 (a % 1296000000000)) ∧ w = w' := by
  have hf := Pl.tmod_fix a 1296000000000 (by omega)
  obtain ⟨hb1, hb2⟩ := Pl.tmod_bd a 1296000000000 (by omega)
  by_cases hc : a.tmod 1296000000000 < 0
  · rw [if_pos hc] at hf
    have Hf := Lib.hid hf
    clear hf
    go_enter Tryd.func22, Tryd.ntmps22
    go_wp2
    go_ret
    exact ⟨ret_int Hf.out, rfl⟩
  · rw [if_neg hc] at hf
    have Hf := Lib.hid hf
    clear hf
    go_enter Tryd.func22, Tryd.ntmps22
    go_wp2
    go_ret
    exact ⟨ret_int Hf.out, rfl⟩

set_option maxHeartbeats 400000 in
theorem diff_any (a b : Int) (w : World) (h0 : -9223372036854775808 ≤ a) (h1 : a ≤ 9223372036854775807) (h2 : -9223372036854775808 ≤ b) (h3 : b ≤ 9223372036854775807) :
    Calls Tryd.prog 15 #[.int .i64 a, .int .i64 b] w fun e w' => e = .returned (.int .i64 (dif a b)) ∧ w = w' := by
  have g := sub_nrm a b
  have Hg := Lib.hid g
  clear g
  go_enter Tryd.func15, Tryd.ntmps15
  go_wp2_with (go_at_call 14; refine (norm_any _ _ (by omega) (by omega)).mono ?_; rintro e w' ⟨rfl, rfl⟩)
  all_goals
    go_ret
    refine ⟨ret_int ?_, rfl⟩
    rw [Hg.out] at *
    unfold dif
    first | rw [if_pos (by omega)] | rw [if_neg (by omega)]

end Turns
end Go.Proofs.YtmafjoboikbnnaaDoor
