/-
  The walk of AngleParses: the program and the reference read the same angles, from any text.
-/
import Derived.Test.YtmafjoboikbnnaaDoorPRa
import Derived.Test.YtmafjoboikbnnaaDoorPDeg
import Derived.Test.YtmafjoboikbnnaaDoorPRDeg
namespace Go.Proofs.YtmafjoboikbnnaaDoor
namespace Ap
open Go.RowKit Lw

set_option maxRecDepth 100000 in
set_option maxHeartbeats 4000000 in
theorem parses_any (s : ByteArray) (w : World) (m : Int) (hm : w.cell? ⟨0, 0, none⟩ = some (.int .i64 m)) :
    Calls Tryd.prog 3 #[.string s] w fun e w' => e = .returned (.bool true) ∧ Below w.heap.size w w' := by
  by_cases h : (100 : Int) < s.size
  · clear hm
    go_enter Tryd.func3, Tryd.ntmps3
    go_wp2_with fail
    go_ret
    exact ⟨rfl, Below.refl _ _⟩
  · have hs : s.size ≤ 100 := by omega
    have hz : 0 < w.heap.size := World.block_lt_of_cell? w _ hm
    replace hm := Lib.hid hm
    have hs := Lib.hid hs
    go_enter Tryd.func3, Tryd.ntmps3
    go_wp2_with fail
    go_at_call 7
    refine (ra_any s _ (by have := hs.out; omega)).mono ?_
    rintro e w1 ⟨v1, c1, rfl, r1, b1⟩
    go_wp2_with fail
    go_at_call 8
    refine (rra_any s _ (by have := hs.out; unfold maxLen; omega)).mono ?_
    rintro e w2 ⟨v2, c2, rfl, r2, b2⟩
    obtain ⟨rfl, rfl⟩ := r1.det r2
    have b12 := below_then b1 b2
    clear r1 r2 b1 b2
    go_wp2_with fail
    go_at_call 9
    refine (dec_any s _ (by have := hs.out; omega)).mono ?_
    rintro e w3 ⟨v3, c3, rfl, r3, b3⟩
    go_wp2_with fail
    go_at_call 10
    refine (rdec_any s _ (by have := hs.out; unfold maxLen; omega)).mono ?_
    rintro e w4 ⟨v4, c4, rfl, r4, b4⟩
    obtain ⟨rfl, rfl⟩ := r3.det r4
    have b14 := below_then (below_then b12 b3) b4
    clear r3 r4 b3 b4 b12
    have hm4 := Lib.hid ((b14.cell (p := ⟨0, 0, none⟩) hz).trans hm.out)
    go_wp2_with fail
    go_at_call 11
    refine (deg_any s _ m hm4.out hs.out).mono ?_
    rintro e w5 ⟨v5, c5, rfl, r5, b5⟩
    go_wp2_with fail
    go_at_call 12
    refine (rdeg_any s _ hs.out).mono ?_
    rintro e w6 ⟨v6, c6, rfl, r6, b6⟩
    obtain ⟨rfl, rfl⟩ := r5.det r6
    have b16 := below_then (below_then b14 b5) b6
    clear r5 r6 b5 b6 b14 hm4
    go_wp2_with fail
    go_ret
    exact ⟨rfl, b16⟩
end Ap
end Go.Proofs.YtmafjoboikbnnaaDoor
