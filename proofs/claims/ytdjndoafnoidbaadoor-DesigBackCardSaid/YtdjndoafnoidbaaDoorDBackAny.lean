/-
  DesigBack, for strings of any length.
-/
import Derived.Test.YtdjndoafnoidbaaDoorDBack
namespace Go.Proofs.YtdjndoafnoidbaaDoor
namespace Dw
open Go.RowKit Dp Lw

set_option maxRecDepth 100000 in
set_option maxHeartbeats 4000000 in
theorem law_back (n y u z c : Int) (p q : ByteArray) (w : World) (hT : Tb w) (h0 : 0 ≤ u ∧ u ≤ 255) (s0 : 0 ≤ z ∧ z ≤ 255) :
    Calls Tryd.prog 5 #[.agg #[.int .i64 n, .int .i64 y, .int .u8 u, .int .u8 z, .int .i64 c], .string p, .string q] w fun e w' => e = .returned (.bool true) ∧ Below w.heap.size w w' := by
  have S0 := BS.box hT (desigC n y u z c) 23
  by_cases hp : p.size ≤ 40
  · by_cases hq : q.size ≤ 40
    · exact back_any n y u z c p q w hT h0.1 (by omega) s0.1 (by omega) hp hq
    · have P1 : ¬ (40 : Int) < (p.size : Int) := by omega
      have P2 : (40 : Int) < (q.size : Int) := by omega
      clear hT
      go_enter Tryd.func5, Tryd.ntmps5
      go_wp2_with fail
      refine (alive_any _ S0.tb).mono ?_
      rintro e w1 ⟨rfl, hb⟩
      have S1 := S0.call hb
      clear S0 hb
      go_wp2_with fail
      go_ret
      exact ⟨rfl, S1.below⟩
  · have P1 : (40 : Int) < (p.size : Int) := by omega
    clear hT
    go_enter Tryd.func5, Tryd.ntmps5
    go_wp2_with fail
    refine (alive_any _ S0.tb).mono ?_
    rintro e w1 ⟨rfl, hb⟩
    have S1 := S0.call hb
    clear S0 hb
    go_wp2_with fail
    go_ret
    exact ⟨rfl, S1.below⟩
end Dw
end Go.Proofs.YtdjndoafnoidbaaDoor
