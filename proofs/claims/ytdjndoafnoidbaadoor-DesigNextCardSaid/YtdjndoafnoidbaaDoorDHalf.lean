/-
  The walks of Half of package desig and of the reference.
-/
import Derived.Test.YtdjndoafnoidbaaDoorDWalk1
namespace Go.Proofs.YtdjndoafnoidbaaDoor
namespace Dw
open Go.RowKit Dp Lw

def HalfPost (m d : Int) (w : World) (e : Ending) (w' : World) : Prop := ∃ v k : Int, e = .returned (.tuple #[.int .u8 v, .int .i64 k]) ∧ HalfIs m d v k ∧ w = w'
def RHalfPost (m d : Int) (w : World) (e : Ending) (w' : World) : Prop := ∃ v k : Int, e = .returned (.tuple #[.int .u8 v, .int .i64 k]) ∧ HalfIs m d v k ∧ w = w'

set_option maxHeartbeats 4000000 in
theorem Half_any (m d : Int) (w : World) (hT : Tab w) : Calls Tryd.prog 12 #[.int .i64 m, .int .i64 d] w (HalfPost m d w) := by
  by_cases h : 1 ≤ m ∧ m ≤ 12 ∧ 1 ≤ d ∧ d ≤ 31
  · obtain ⟨h1, h2, h3, h4⟩ := h
    obtain ⟨k, rfl⟩ := Int.eq_ofNat_of_zero_le (show 0 ≤ m by omega)
    have c1 := hT.cell (2 * k - 2 + 1) (by omega)
    have c2 := hT.cell (2 * k - 2) (by omega)
    obtain ⟨b1, b2⟩ := ord_bd (2 * k - 2 + 1) (by omega)
    obtain ⟨b3, b4⟩ := ord_bd (2 * k - 2) (by omega)
    by_cases hd : 15 < d
    · have e : d / 16 = 1 := by omega
      have Fin := Lib.hid (show ordAt (2 * k - 2 + 1) = halfLet k d by unfold halfLet; rw [if_pos hd]; simp)
      have B := Lib.hid (show (1 : Int) ≤ k ∧ (k : Int) ≤ 12 ∧ 1 ≤ d ∧ d ≤ 31 from ⟨h1, h2, h3, h4⟩)
      go_enter Tryd.func12, Tryd.ntmps12
      go_wp2
      go_ret2
      exact ⟨_, 0, rfl, Or.inl ⟨B.out.1, B.out.2.1, B.out.2.2.1, B.out.2.2.2, by first | exact Fin.out | (rw [← Fin.out]; simp [IntKind.wrap_u8]; omega), rfl⟩, rfl⟩
    · have e : d / 16 = 0 := by omega
      have Fin := Lib.hid (show ordAt (2 * k - 2) = halfLet k d by unfold halfLet; rw [if_neg hd]; simp)
      have B := Lib.hid (show (1 : Int) ≤ k ∧ (k : Int) ≤ 12 ∧ 1 ≤ d ∧ d ≤ 31 from ⟨h1, h2, h3, h4⟩)
      go_enter Tryd.func12, Tryd.ntmps12
      go_wp2
      go_ret2
      exact ⟨_, 0, rfl, Or.inl ⟨B.out.1, B.out.2.1, B.out.2.2.1, B.out.2.2.2, by first | exact Fin.out | (rw [← Fin.out]; simp [IntKind.wrap_u8]; omega), rfl⟩, rfl⟩
  · go_enter Tryd.func12, Tryd.ntmps12
    go_wp2
    all_goals first
      | (exfalso; omega)
      | (go_ret2; exact ⟨0, 2, rfl, Or.inr ⟨h, rfl, rfl⟩, rfl⟩)

set_option maxHeartbeats 4000000 in
theorem rHalf_any (m d : Int) (w : World) : Calls Tryd.prog 13 #[.int .i64 m, .int .i64 d] w (RHalfPost m d w) := by
  by_cases h : 1 ≤ m ∧ m ≤ 12 ∧ 1 ≤ d ∧ d ≤ 31
  · obtain ⟨h1, h2, h3, h4⟩ := h
    by_cases hd : 15 < d
    · rcases or12 h1 h2 with rfl | rfl | rfl | rfl | rfl | rfl | rfl | rfl | rfl | rfl | rfl | rfl
      all_goals
        go_enter Tryd.func13, Tryd.ntmps13
        go_wp2
        go_ret2
        exact ⟨_, 0, rfl, Or.inl ⟨by omega, by omega, h3, h4, by unfold halfLet; rw [if_pos hd]; rfl, rfl⟩, rfl⟩
    · rcases or12 h1 h2 with rfl | rfl | rfl | rfl | rfl | rfl | rfl | rfl | rfl | rfl | rfl | rfl
      all_goals
        go_enter Tryd.func13, Tryd.ntmps13
        go_wp2
        go_ret2
        exact ⟨_, 0, rfl, Or.inl ⟨by omega, by omega, h3, h4, by unfold halfLet; rw [if_neg (by omega)]; rfl, rfl⟩, rfl⟩
  · go_enter Tryd.func13, Tryd.ntmps13
    go_wp2
    all_goals first
      | (exfalso; omega)
      | (go_ret2; exact ⟨0, 2, rfl, Or.inr ⟨h, rfl, rfl⟩, rfl⟩)
end Dw
end Go.Proofs.YtdjndoafnoidbaaDoor
