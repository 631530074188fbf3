/-
  The walk of MomentParses: the program and the reference read the same, for any string.
-/
import Derived.Test.YtmgehfakcnmdnaaDoorMRPDay
namespace Go.Proofs.YtmgehfakcnmdnaaDoor
namespace Ap
open Go.RowKit Lw Go.Proofs.YtmgehfakcnmdnaaDoor.Mp

theorem rparse_any (s : ByteArray) (w : World) (hs : s.size ≤ 100) : Calls Tryd.prog 5 #[.string s] w (ParsePost s w) := by
  by_cases h : s.size < 20 ∨ s.size = 21 ∨ 27 < s.size
  · exact rparse_short s w hs h
  · exact rparse_long s w (by omega) (by omega) (by omega)
theorem rpday_any (s : ByteArray) (w : World) (hs : s.size ≤ 100) : Calls Tryd.prog 7 #[.string s] w (PDayPost s w) := by
  by_cases h : s.size < 10 ∨ s.size = 11 ∨ 20 < s.size
  · exact rpday_short s w hs h
  · exact rpday_long s w (by omega) (by omega) (by omega)
set_option maxRecDepth 100000 in
set_option maxHeartbeats 4000000 in
theorem law_parses (s : ByteArray) (w : World) (hm : s.size ≤ maxLen) : Calls Tryd.prog 3 #[.string s] w fun e w' => e = .returned (.bool true) ∧ Below w.heap.size w w' := by
  by_cases h : 100 < s.size
  · have i0 : (100 : Int) < (s.size : Int) := by omega
    go_enter Tryd.func3, Tryd.ntmps3
    go_wp2_with fail
    go_ret
    exact ⟨rfl, Below.refl _ _⟩
  · have i0 : ¬ (100 : Int) < (s.size : Int) := by omega
    have C1 := Lib.hid (fun w' => parse_any s w' (by omega))
    have C2 := Lib.hid (fun w' => rparse_any s w' (by omega))
    have C3 := Lib.hid (fun w' => pday_any s w' (by omega))
    have C4 := Lib.hid (fun w' => rpday_any s w' (by omega))
    go_enter Tryd.func3, Tryd.ntmps3
    go_wp2_with fail
    refine (C1.out _).mono ?_
    rintro e w1 ⟨t1, c1, rfl, g1, hb1⟩
    go_wp2_with fail
    refine (C2.out _).mono ?_
    rintro e w2 ⟨t2, c2, rfl, g2, hb2⟩
    obtain ⟨rfl, rfl⟩ := g1.uniq g2
    have B2 := Lib.hid (below_then hb1 hb2)
    clear g1 g2 hb1 hb2
    go_wp2_with fail
    refine (C3.out _).mono ?_
    rintro e w3 ⟨t3, c3, rfl, g3, hb3⟩
    go_wp2_with fail
    refine (C4.out _).mono ?_
    rintro e w4 ⟨t4, c4, rfl, g4, hb4⟩
    obtain ⟨rfl, rfl⟩ := g3.uniq g4
    have B4 := Lib.hid (below_then (below_then B2.out hb3) hb4)
    clear g3 g4 hb3 hb4
    go_wp2_with fail
    go_ret
    exact ⟨rfl, B4.out⟩
end Ap
end Go.Proofs.YtmgehfakcnmdnaaDoor
