/-
  The walks of Compare and Half of package desig.
-/
import Derived.Test.YtdjndoafnoidbaaDoorDWalk2
namespace Go.Proofs.YtdjndoafnoidbaaDoor
namespace Dw
open Go.RowKit Dp Lw

def CmpPost (n y u s c n' y' u' s' c' : Int) (w : World) (e : Ending) (w' : World) : Prop := ∃ v k : Int, e = .returned (.tuple #[.int .i64 v, .int .i64 k]) ∧ CmpIs n y u s c n' y' u' s' c' v k ∧ Below w.heap.size w w'

set_option maxRecDepth 100000 in
set_option maxHeartbeats 2000000 in
theorem Compare_any (n y u s c n' y' u' s' c' : Int) (w : World) (hT : Tab w) (h0 : 0 ≤ u) (h1 : u < 256) (s0 : 0 ≤ s) (s1 : s < 256) (h0' : 0 ≤ u') (h1' : u' < 256) (s0' : 0 ≤ s') (s1' : s' < 256) :
    Calls Tryd.prog 10 #[desigV n y u s c, desigV n' y' u' s' c'] w (CmpPost n y u s c n' y' u' s' c' w) := by
  have tw := two_new w n y u s c n' y' u' s' c'
  have hT2 := (hT.alloc (.cells #[.int .i64 n, .int .i64 y, .int .u8 u, .int .u8 s, .int .i64 c] 23)).alloc (.cells #[.int .i64 n', .int .i64 y', .int .u8 u', .int .u8 s', .int .i64 c'] 23)
  go_enter Tryd.func10, Tryd.ntmps10
  go_wp2_with fail
  generalize (w.alloc (.cells #[.int .i64 n, .int .i64 y, .int .u8 u, .int .u8 s, .int .i64 c] 23)).alloc (.cells #[.int .i64 n', .int .i64 y', .int .u8 u', .int .u8 s', .int .i64 c'] 23) = W at *
  obtain ⟨a0, a1, a2, a3, a4, b0, b1, b2, b3, b4, hB, hz⟩ := tw
  refine (check_any n y u s c _ hT2 h0 h1 s0 s1).mono ?_
  rintro e w1 ⟨rfl, hb1⟩
  have hB1 := below_then hB hb1
  rcases errC_two n y u s c with ⟨e1, g1⟩ | ⟨e1, g1⟩
  · rw [e1]
    have hT3 := hT2.below hb1
    have d0 := (hb1.cell (p := ⟨w.heap.size + 1, 0, none⟩) hz).trans b0
    have d1 := (hb1.cell (p := ⟨w.heap.size + 1, 1, none⟩) hz).trans b1
    have d2 := (hb1.cell (p := ⟨w.heap.size + 1, 2, none⟩) hz).trans b2
    have d3 := (hb1.cell (p := ⟨w.heap.size + 1, 3, none⟩) hz).trans b3
    have d4 := (hb1.cell (p := ⟨w.heap.size + 1, 4, none⟩) hz).trans b4
    have hz' : w.heap.size < W.heap.size := by omega
    have c0 := (hb1.cell (p := ⟨w.heap.size, 0, none⟩) hz').trans a0
    have c1 := (hb1.cell (p := ⟨w.heap.size, 1, none⟩) hz').trans a1
    have c2 := (hb1.cell (p := ⟨w.heap.size, 2, none⟩) hz').trans a2
    have c3 := (hb1.cell (p := ⟨w.heap.size, 3, none⟩) hz').trans a3
    have c4 := (hb1.cell (p := ⟨w.heap.size, 4, none⟩) hz').trans a4
    have G1 := Lib.hid g1
    have hy1 : w.heap.size + 1 < w1.heap.size := by have := hb1.size; omega
    clear a0 a1 a2 a3 a4 b0 b1 b2 b3 b4 hz hz' hT2 hB g1 e1
    go_wp2_with fail
    refine (check_any n' y' u' s' c' _ hT3 h0' h1' s0' s1').mono ?_
    rintro e w2 ⟨rfl, hb2⟩
    have hB2 := below_then hB1 hb2
    rcases errC_two n' y' u' s' c' with ⟨e2, g2⟩ | ⟨e2, g2⟩
    · rw [e2]
      have d0 := (hb2.cell (p := ⟨w.heap.size + 1, 0, none⟩) hy1).trans d0
      have d1 := (hb2.cell (p := ⟨w.heap.size + 1, 1, none⟩) hy1).trans d1
      have d2 := (hb2.cell (p := ⟨w.heap.size + 1, 2, none⟩) hy1).trans d2
      have d3 := (hb2.cell (p := ⟨w.heap.size + 1, 3, none⟩) hy1).trans d3
      have d4 := (hb2.cell (p := ⟨w.heap.size + 1, 4, none⟩) hy1).trans d4
      have hy0 : w.heap.size < w1.heap.size := by omega
      have c0 := (hb2.cell (p := ⟨w.heap.size, 0, none⟩) hy0).trans c0
      have c1 := (hb2.cell (p := ⟨w.heap.size, 1, none⟩) hy0).trans c1
      have c2 := (hb2.cell (p := ⟨w.heap.size, 2, none⟩) hy0).trans c2
      have c3 := (hb2.cell (p := ⟨w.heap.size, 3, none⟩) hy0).trans c3
      have c4 := (hb2.cell (p := ⟨w.heap.size, 4, none⟩) hy0).trans c4
      have G2 := Lib.hid g2
      have bd1 := okD_bd G1.out
      have bd2 := okD_bd g2
      clear g2 e2
      go_wp2_with fail
      refine (compare_any n y u s c n' y' u' s' c' _ bd1.1 bd1.2 bd2.1 bd2.2).mono ?_
      rintro e w3 ⟨rfl, hb3⟩
      go_wp2_with fail
      go_ret2
      exact ⟨_, 0, rfl, Or.inl ⟨G1.out, G2.out, cmp_same G1.out G2.out, rfl⟩, below_then hB2 hb3⟩
    · rw [e2]
      clear e2
      go_wp2_with fail
      go_ret2
      exact ⟨0, 8, rfl, Or.inr ⟨fun g => g2 g.2, rfl, rfl⟩, hB2⟩
  · rw [e1]
    clear e1
    go_wp2_with fail
    go_ret2
    exact ⟨0, 8, rfl, Or.inr ⟨fun g => g1 g.1, rfl, rfl⟩, hB1⟩
end Dw
end Go.Proofs.YtdjndoafnoidbaaDoor
