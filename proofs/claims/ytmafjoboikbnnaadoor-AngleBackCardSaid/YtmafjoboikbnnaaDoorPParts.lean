/-
  The parts of a text of hours or degrees: the reference.
-/
import Derived.Test.YtmafjoboikbnnaaDoorPCom
namespace Go.Proofs.YtmafjoboikbnnaaDoor
namespace Ap
open Go.RowKit Lw

/-- The number of two digits at a place, or -1. -/
def two (s : ByteArray) (i : Nat) : Int := numV (s.extract i (i + 2)).data.toList
theorem at_of (s : ByteArray) (i : Nat) (h : i < s.size) : ((s.get! i).toNat : Int) = (s[i].toNat : Int) := by simp [ByteArray.get!, getElem!_pos, h]; rfl
/-- Where the spaces and the point stand. -/
def shapeP (s : ByteArray) : Prop := 8 ≤ s.size ∧ ((s.get! 2).toNat : Int) = 32 ∧ ((s.get! 5).toNat : Int) = 32 ∧ s.size ≠ 9 ∧ s.size ≤ 15 ∧ (8 < s.size → ((s.get! 8).toNat : Int) = 46)
def restOf (s : ByteArray) : ByteArray := if s.size = 8 then ByteArray.empty else s.extract 9 s.size
def validP (s : ByteArray) : Prop := shapeP s ∧ 0 ≤ two s 0 ∧ (0 ≤ two s 3 ∧ two s 3 ≤ 59) ∧ (0 ≤ two s 6 ∧ two s 6 ≤ 59) ∧ 0 ≤ numV (restOf s).data.toList
/-- What parts returns: where the text is none, its numbers are anything. -/
def PartsIs (s : ByteArray) (a b c : Int) (r : ByteArray) (ok : Bool) : Prop := (ok = true ∧ validP s ∧ a = two s 0 ∧ b = two s 3 ∧ c = two s 6 ∧ r = restOf s) ∨ (ok = false ∧ ¬ validP s)
theorem info42 : (Tryd.prog.info? 42).map (·.size) = some 3 := by kernel_rfl
abbrev ar3 (a b c : Int) : List Value := [.int .i64 a, .int .i64 b, .int .i64 c]
def PartsPost (s : ByteArray) (w : World) (e : Ending) (w' : World) : Prop := ∃ (a b c : Int) (r : ByteArray) (ok : Bool), e = .returned (.tuple #[.agg #[.int .i64 a, .int .i64 b, .int .i64 c], .string r, .bool ok]) ∧ PartsIs s a b c r ok ∧ Below w.heap.size w w'

set_option maxHeartbeats 4000000 in
theorem parts_shape (s : ByteArray) (w : World) (hs : s.size ≤ maxLen) (hn : ¬ shapeP s) :
    Calls Tryd.prog 25 #[.string s] w (PartsPost s w) := by
  unfold maxLen at hs
  have N := Lib.hid hn
  clear hn
  have R0 : ((w.alloc (.cells #[.int .i64 0, .int .i64 0, .int .i64 0] 42)).alloc (.cells #[.int .i64 0, .int .i64 0, .int .i64 0] 42)).rangeAt w.heap.size 0 (ar3 0 0 0) :=
    rangeAt_below (rangeAt_new w (ar3 0 0 0) 42) ((Below.refl (w.alloc (.cells #[.int .i64 0, .int .i64 0, .int .i64 0] 42)).heap.size _).alloc (Nat.le_refl _) _) (by simp)
  have hB : Below w.heap.size w ((w.alloc (.cells #[.int .i64 0, .int .i64 0, .int .i64 0] 42)).alloc (.cells #[.int .i64 0, .int .i64 0, .int .i64 0] 42)) := ((Below.refl _ _).alloc (Nat.le_refl _) _).alloc (by simp) _
  go_enter Tryd.func25, Tryd.ntmps25
  by_cases h8 : s.size < 8
  · have n8 : (s.size : Int) < 8 := by omega
    go_wp2
    exact bodyPost_ret (ret_cell_tmp2 Tryd.results25 _ _ w.heap.size (ar3 0 0 0) _ rfl R0 Tryd.underlying42 rfl info42) rfl ⟨0, 0, 0, _, false, rfl, Or.inr ⟨rfl, fun g => N.out g.1⟩, hB⟩
  · have n8 : ¬ (s.size : Int) < 8 := by omega
    have i2 : (2 : Nat) < s.size := by omega
    have i5 : (5 : Nat) < s.size := by omega
    have p2 := at_of s 2 i2
    have p5 := at_of s 5 i5
    by_cases h9 : 8 < s.size
    · have p8 := at_of s 8 h9
      have n9 : (8 : Int) < s.size := by omega
      go_wp2
      all_goals first
        | exact bodyPost_ret (ret_cell_tmp2 Tryd.results25 _ _ w.heap.size (ar3 0 0 0) _ rfl R0 Tryd.underlying42 rfl info42) rfl ⟨0, 0, 0, _, false, rfl, Or.inr ⟨rfl, fun g => N.out g.1⟩, hB⟩
        | (exfalso; simp only [beq_iff_eq, beq_eq_false_iff_ne, bne_iff_ne, bne_eq_false_iff_eq, ne_eq] at *; exact N.out ⟨by omega, by omega, by omega, by omega, by omega, fun _ => by omega⟩)
    · have n9 : ¬ (8 : Int) < s.size := by omega
      go_wp2
      all_goals first
        | exact bodyPost_ret (ret_cell_tmp2 Tryd.results25 _ _ w.heap.size (ar3 0 0 0) _ rfl R0 Tryd.underlying42 rfl info42) rfl ⟨0, 0, 0, _, false, rfl, Or.inr ⟨rfl, fun g => N.out g.1⟩, hB⟩
        | (exfalso; simp only [beq_iff_eq, beq_eq_false_iff_ne, bne_iff_ne, bne_eq_false_iff_eq, ne_eq] at *; exact N.out ⟨by omega, by omega, by omega, by omega, by omega, fun g => absurd g h9⟩)
end Ap
end Go.Proofs.YtmafjoboikbnnaaDoor
