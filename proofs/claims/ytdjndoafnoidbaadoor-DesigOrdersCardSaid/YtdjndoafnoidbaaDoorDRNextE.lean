/-
  The walk of Next of the reference, for an empty list.
-/
import Derived.Test.YtdjndoafnoidbaaDoorDRNext
namespace Go.Proofs.YtdjndoafnoidbaaDoor
namespace Dw
open Go.RowKit Dp Lw

set_option maxRecDepth 100000 in
set_option maxHeartbeats 4000000 in
theorem rnext_empty (L : Ls) (a : Option Addr) (cap : Nat) (y h : Int) (w : World) (y1 : 1800 ≤ y) (y2 : y ≤ 2099) (hp : halfP h) :
    Calls Tryd.prog 15 #[.slice a 0 cap, .int .i64 y, .int .u8 h] w (RNextPost L 0 y h w) := by
  have th := there_new w #[.int .i64 0, .int .i64 0, .int .u8 0, .int .u8 0, .int .i64 0] 23 5 (by simp)
  have hB := (Below.refl w.heap.size w).alloc (Nat.le_refl _) (.cells #[.int .i64 0, .int .i64 0, .int .u8 0, .int .u8 0, .int .i64 0] 23)
  have hd := (halfB_true hp).symm
  have Hp := Lib.hid hp
  clear hp
  go_enter Tryd.func15, Tryd.ntmps15
  go_wp2_with (first | (go_at_call 27; refine (halfLetter_any _ _).mono ?_; rintro e w' ⟨rfl, rfl⟩))
  clear hd
  go_loopw [8] (fun i wr => i = .int .i64 0 ∧ Below w.heap.size w wr ∧ wr.there w.heap.size 0 5) (fun _ _ => 0)
  case atStart => exact ⟨rfl, hB, th⟩
  case round =>
    clear hB th
    obtain ⟨rfl, hB, th⟩ := hrel
    go_wp2_with (first | (refine wpList_store_new rfl _ (.tmp 9) (.tmp 42) rfl _ (desigC 0 y h 65 0).toArray rfl rfl info5d rfl ?_ ?_; simp [Value.oneCell']))
    have bx : (wr.alloc (.cells (desigC 0 y h 65 0).toArray 23)).rangeAt wr.heap.size 0 (desigC 0 y h 65 0) := rangeAt_new _ _ _
    have hB2 := hB.alloc hB.size (.cells (desigC 0 y h 65 0).toArray 23)
    have th2 := World.there_alloc th (.cells (desigC 0 y h 65 0).toArray 23)
    generalize wr.heap.size = B at *
    generalize wr.alloc (.cells (desigC 0 y h 65 0).toArray 23) = W at *
    clear hB th
    go_loopw [10] (fun i wr => i = .int .i64 0 ∧ wr.rangeAt B 0 (desigC 0 y h 65 0) ∧ Below w.heap.size w wr ∧ wr.there w.heap.size 0 5) (fun _ _ => 0)
    case atStart => exact ⟨rfl, bx, hB2, th2⟩
    case round =>
      clear bx hB2 th2
      obtain ⟨rfl, bx, hB2, th2⟩ := hrel
      have q0 : wr.cell? ⟨B, 0, none⟩ = some (.int .i64 0) := bx 0 _ rfl
      have q1 : wr.cell? ⟨B, 1, none⟩ = some (.int .i64 y) := by have := bx 1 _ rfl; simpa using this
      have q2 : wr.cell? ⟨B, 2, none⟩ = some (.int .u8 h) := by have := bx 2 _ rfl; simpa using this
      have q3 : wr.cell? ⟨B, 3, none⟩ = some (.int .u8 65) := by have := bx 3 _ rfl; simpa using this
      have q4 : wr.cell? ⟨B, 4, none⟩ = some (.int .i64 0) := by have := bx 4 _ rfl; simpa using this
      go_wp2_with (first | (refine wpList_load_mid rfl _ (.tmp 109) rfl B 0 rfl (desigC 0 y h 65 0) _ bx Tryd.underlying23 rfl info5d ?_) | (refine wpList_store_mid rfl _ (.tmp 6) (.tmp 109) rfl w.heap.size 0 _ rfl rfl ?_ info5d ?_ ?_; exact th2; simp [Value.oneCell']))
      exact bodyPost_ret (ret_cell_tmp Tryd.results15 _ _ w.heap.size (desigC 0 y h 65 0) _ rfl (World.rangeAt_setCells_same _ _ _ _ th2) Tryd.underlying23 rfl info5d) rfl ⟨0, y, h, 65, 0, 0, rfl, Or.inr (Or.inr (Or.inr (Or.inr ⟨⟨y1, y2, Hp.out⟩, by omega, okTo_0 L, by simp [nextTo], rfl, rfl, rfl, rfl, rfl, rfl⟩))), below_setCells _ (Nat.le_refl _) _ _ _ hB2⟩
end Dw
end Go.Proofs.YtdjndoafnoidbaaDoor
