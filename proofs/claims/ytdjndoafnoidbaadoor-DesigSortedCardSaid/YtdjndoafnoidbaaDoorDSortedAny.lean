/-
  DesigSorted, for any designations.
-/
import Derived.Test.YtdjndoafnoidbaaDoorDSorted
namespace Go.Proofs.YtdjndoafnoidbaaDoor
namespace Dw
open Go.RowKit Dp Lw

set_option maxRecDepth 100000 in
set_option maxHeartbeats 16000000 in
theorem sorted_bad (a b c : Dg) (w : World) (hT : Tb w) (g : ¬ okG a ∨ (okG a ∧ ¬ okG b) ∨ (okG a ∧ okG b ∧ ¬ okG c)) :
    Calls Tryd.prog 8 #[desigV a.n a.y a.h a.s a.c, desigV b.n b.y b.h b.s b.c, desigV c.n c.y c.h c.s c.c] w fun e w' => e = .returned (.bool true) ∧ Below w.heap.size w w' := by
  have S0 := DS.new hT (desigC a.n a.y a.h a.s a.c) (desigC b.n b.y b.h b.s b.c) (desigC c.n c.y c.h c.s c.c) 23
  have RA := fun w' => rcheck_any a.n a.y a.h a.s a.c w'
  have RB := fun w' => rcheck_any b.n b.y b.h b.s b.c w'
  have RC := fun w' => rcheck_any c.n c.y c.h c.s c.c w'
  rcases g with g | ⟨g1, g2⟩ | ⟨g1, g2, g3⟩
  · rw [errC_no g] at RA
    have RA := Lib.hid RA
    obtain ⟨na, ya, ha, sa, ca⟩ := a
    clear g RB RC hT
    go_enter Tryd.func8, Tryd.ntmps8
    go_wp2_with fail
    refine (alive_any _ S0.tb).mono ?_
    rintro e w1 ⟨rfl, hh⟩
    have S1 := S0.call hh
    clear S0 hh
    go_wp2_with (refine wpList_load_mid rfl _ (.tmp 3) rfl w.heap.size 0 rfl (desigC na ya ha sa ca) _ S1.x0.row Tryd.underlying23 rfl info5d ?_)
    refine (RA.out _).mono ?_
    rintro e w2 ⟨rfl, hh⟩
    have S2 := S1.call hh
    clear S1 hh RA
    go_wp2_with fail
    go_ret
    exact ⟨rfl, S2.below⟩
  · rw [errC_ok g1] at RA
    rw [errC_no g2] at RB
    have RA := Lib.hid RA
    have RB := Lib.hid RB
    obtain ⟨na, ya, ha, sa, ca⟩ := a
    obtain ⟨nb, yb, hb, sb, cb⟩ := b
    clear g1 g2 RC hT
    go_enter Tryd.func8, Tryd.ntmps8
    go_wp2_with fail
    refine (alive_any _ S0.tb).mono ?_
    rintro e w1 ⟨rfl, hh⟩
    have S1 := S0.call hh
    clear S0 hh
    go_wp2_with (refine wpList_load_mid rfl _ (.tmp 3) rfl w.heap.size 0 rfl (desigC na ya ha sa ca) _ S1.x0.row Tryd.underlying23 rfl info5d ?_)
    refine (RA.out _).mono ?_
    rintro e w2 ⟨rfl, hh⟩
    have S2 := S1.call hh
    clear S1 hh RA
    have q0 := S2.x1.cell 0 _ rfl
    have q1 := S2.x1.cell 1 _ rfl
    have q2 := S2.x1.cell 2 _ rfl
    have q3 := S2.x1.cell 3 _ rfl
    have q4 := S2.x1.cell 4 _ rfl
    go_wp2_with fail
    refine (RB.out _).mono ?_
    rintro e w3 ⟨rfl, hh⟩
    have S3 := S2.call hh
    clear S2 hh RB q0 q1 q2 q3 q4
    go_wp2_with fail
    go_ret
    exact ⟨rfl, S3.below⟩
  · rw [errC_ok g1] at RA
    rw [errC_ok g2] at RB
    rw [errC_no g3] at RC
    have RA := Lib.hid RA
    have RB := Lib.hid RB
    have RC := Lib.hid RC
    obtain ⟨na, ya, ha, sa, ca⟩ := a
    obtain ⟨nb, yb, hb, sb, cb⟩ := b
    obtain ⟨nc, yc, hc, sc, cc⟩ := c
    clear g1 g2 g3 hT
    go_enter Tryd.func8, Tryd.ntmps8
    go_wp2_with fail
    refine (alive_any _ S0.tb).mono ?_
    rintro e w1 ⟨rfl, hh⟩
    have S1 := S0.call hh
    clear S0 hh
    go_wp2_with (refine wpList_load_mid rfl _ (.tmp 3) rfl w.heap.size 0 rfl (desigC na ya ha sa ca) _ S1.x0.row Tryd.underlying23 rfl info5d ?_)
    refine (RA.out _).mono ?_
    rintro e w2 ⟨rfl, hh⟩
    have S2 := S1.call hh
    clear S1 hh RA
    have q0 := S2.x1.cell 0 _ rfl
    have q1 := S2.x1.cell 1 _ rfl
    have q2 := S2.x1.cell 2 _ rfl
    have q3 := S2.x1.cell 3 _ rfl
    have q4 := S2.x1.cell 4 _ rfl
    go_wp2_with fail
    refine (RB.out _).mono ?_
    rintro e w3 ⟨rfl, hh⟩
    have S3 := S2.call hh
    clear S2 hh RB q0 q1 q2 q3 q4
    have q0 := S3.x2.cell 0 _ rfl
    have q1 := S3.x2.cell 1 _ rfl
    have q2 := S3.x2.cell 2 _ rfl
    have q3 := S3.x2.cell 3 _ rfl
    have q4 := S3.x2.cell 4 _ rfl
    go_wp2_with fail
    refine (RC.out _).mono ?_
    rintro e w4 ⟨rfl, hh⟩
    have S4 := S3.call hh
    clear S3 hh RC q0 q1 q2 q3 q4
    go_wp2_with fail
    go_ret
    exact ⟨rfl, S4.below⟩
theorem law_sorted (n y u z c n' y' u' z' c' m x v r k : Int) (w : World) (hT : Tb w) (a0 : 0 ≤ u ∧ u ≤ 255) (a1 : 0 ≤ z ∧ z ≤ 255) (b0 : 0 ≤ u' ∧ u' ≤ 255) (b1 : 0 ≤ z' ∧ z' ≤ 255) (c0 : 0 ≤ v ∧ v ≤ 255) (c1 : 0 ≤ r ∧ r ≤ 255) :
    Calls Tryd.prog 8 #[.agg #[.int .i64 n, .int .i64 y, .int .u8 u, .int .u8 z, .int .i64 c], .agg #[.int .i64 n', .int .i64 y', .int .u8 u', .int .u8 z', .int .i64 c'], .agg #[.int .i64 m, .int .i64 x, .int .u8 v, .int .u8 r, .int .i64 k]] w fun e w' => e = .returned (.bool true) ∧ Below w.heap.size w w' := by
  by_cases ga : okG ⟨n, y, u, z, c⟩
  · by_cases gb : okG ⟨n', y', u', z', c'⟩
    · by_cases gc : okG ⟨m, x, v, r, k⟩
      · exact sorted_any ⟨n, y, u, z, c⟩ ⟨n', y', u', z', c'⟩ ⟨m, x, v, r, k⟩ w hT a0.1 (by show u < 256; omega) a1.1 (by show z < 256; omega) b0.1 (by show u' < 256; omega) b1.1 (by show z' < 256; omega) c0.1 (by show v < 256; omega) c1.1 (by show r < 256; omega) ga gb gc
      · exact sorted_bad ⟨n, y, u, z, c⟩ ⟨n', y', u', z', c'⟩ ⟨m, x, v, r, k⟩ w hT (Or.inr (Or.inr ⟨ga, gb, gc⟩))
    · exact sorted_bad ⟨n, y, u, z, c⟩ ⟨n', y', u', z', c'⟩ ⟨m, x, v, r, k⟩ w hT (Or.inr (Or.inl ⟨ga, gb⟩))
  · exact sorted_bad ⟨n, y, u, z, c⟩ ⟨n', y', u', z', c'⟩ ⟨m, x, v, r, k⟩ w hT (Or.inl ga)
end Dw
end Go.Proofs.YtdjndoafnoidbaaDoor
