/-
  The walk of Next of the reference: what it refuses.
-/
import Derived.Test.YtdjndoafnoidbaaDoorDNext
import Derived.Test.YtdjndoafnoidbaaDoorDRef3
namespace Go.Proofs.YtdjndoafnoidbaaDoor
namespace Dw
open Go.RowKit Dp Lw

def RNextPost (L : Ls) (n : Nat) (y h : Int) (w : World) (e : Ending) (w' : World) : Prop := ∃ rn ry rh rs rc k : Int, e = .returned (.tuple #[desigV rn ry rh rs rc, .int .i64 k]) ∧ NextIs L n y h rn ry rh rs rc k ∧ Below w.heap.size w w'

set_option maxHeartbeats 2000000 in
theorem rnext_arg (L : Ls) (a : Option Addr) (n cap : Nat) (y h : Int) (w : World) (hn : ¬ (1800 ≤ y ∧ y ≤ 2099 ∧ halfP h)) :
    Calls Tryd.prog 15 #[.slice a n cap, .int .i64 y, .int .u8 h] w (RNextPost L n y h w) := by
  have th := there_new w #[.int .i64 0, .int .i64 0, .int .u8 0, .int .u8 0, .int .i64 0] 23 5 (by simp)
  have hB := (Below.refl w.heap.size w).alloc (Nat.le_refl _) (.cells #[.int .i64 0, .int .i64 0, .int .u8 0, .int .u8 0, .int .i64 0] 23)
  have Hn := Lib.hid hn
  have hh : halfB h = true ∨ halfB h = false := by cases halfB h <;> simp
  have Hh := Lib.hid hh
  by_cases hp : halfP h
  · have hd := (halfB_true hp).symm
    have hn2 : y < 1800 ∨ 2099 < y := by
      rcases Int.lt_or_le y 1800 with a | a
      · exact Or.inl a
      · rcases Int.lt_or_le 2099 y with b | b
        · exact Or.inr b
        · exact absurd ⟨a, b, hp⟩ hn
    have Hn2 := Lib.hid hn2
    clear hn hn2 hh
    go_enter Tryd.func15, Tryd.ntmps15
    go_wp2_with (first | (go_at_call 27; refine (halfLetter_any _ _).mono ?_; rintro e w' ⟨rfl, rfl⟩) | (refine wpList_store_mid rfl _ (.tmp 6) (.tmp 22) rfl w.heap.size 0 _ rfl rfl ?_ info5d ?_ ?_; exact th; simp [Value.oneCell']))
    all_goals first
      | (exfalso; rcases Hn2.out with e | e <;> omega)
      | exact bodyPost_ret (ret_cell_tmp Tryd.results15 _ _ w.heap.size (desigC 0 0 0 0 0) _ rfl (World.rangeAt_setCells_same _ _ _ _ th) Tryd.underlying23 rfl info5d) rfl ⟨0, 0, 0, 0, 0, 2, rfl, Or.inl ⟨Hn.out, rfl, rfl, rfl, rfl, rfl, rfl⟩, below_setCells _ (Nat.le_refl _) _ _ _ hB⟩
  · have hd := (halfB_false hp).symm
    clear hn hh
    go_enter Tryd.func15, Tryd.ntmps15
    go_wp2_with (first | (go_at_call 27; refine (halfLetter_any _ _).mono ?_; rintro e w' ⟨rfl, rfl⟩) | (refine wpList_store_mid rfl _ (.tmp 6) (.tmp 22) rfl w.heap.size 0 _ rfl rfl ?_ info5d ?_ ?_; exact th; simp [Value.oneCell']))
    all_goals
      exact bodyPost_ret (ret_cell_tmp Tryd.results15 _ _ w.heap.size (desigC 0 0 0 0 0) _ rfl (World.rangeAt_setCells_same _ _ _ _ th) Tryd.underlying23 rfl info5d) rfl ⟨0, 0, 0, 0, 0, 2, rfl, Or.inl ⟨Hn.out, rfl, rfl, rfl, rfl, rfl, rfl⟩, below_setCells _ (Nat.le_refl _) _ _ _ hB⟩

set_option maxHeartbeats 2000000 in
theorem rnext_many (L : Ls) (a : Option Addr) (n cap : Nat) (y h : Int) (w : World) (y1 : 1800 ≤ y) (y2 : y ≤ 2099) (hp : halfP h) (hn : 1000 < n) (hm : n ≤ 9223372036854775807) :
    Calls Tryd.prog 15 #[.slice a n cap, .int .i64 y, .int .u8 h] w (RNextPost L n y h w) := by
  have th := there_new w #[.int .i64 0, .int .i64 0, .int .u8 0, .int .u8 0, .int .i64 0] 23 5 (by simp)
  have hB := (Below.refl w.heap.size w).alloc (Nat.le_refl _) (.cells #[.int .i64 0, .int .i64 0, .int .u8 0, .int .u8 0, .int .i64 0] 23)
  have hd := (halfB_true hp).symm
  have n1 : (1000 : Int) < (n : Int) := by omega
  go_enter Tryd.func15, Tryd.ntmps15
  go_wp2_with (first | (go_at_call 27; refine (halfLetter_any _ _).mono ?_; rintro e w' ⟨rfl, rfl⟩) | (refine wpList_store_mid rfl _ (.tmp 6) (.tmp 26) rfl w.heap.size 0 _ rfl rfl ?_ info5d ?_ ?_; exact th; simp [Value.oneCell']))
  exact bodyPost_ret (ret_cell_tmp Tryd.results15 _ _ w.heap.size (desigC 0 0 0 0 0) _ rfl (World.rangeAt_setCells_same _ _ _ _ th) Tryd.underlying23 rfl info5d) rfl ⟨0, 0, 0, 0, 0, 4, rfl, Or.inr (Or.inl ⟨⟨y1, y2, hp⟩, hn, rfl, rfl, rfl, rfl, rfl, rfl⟩), below_setCells _ (Nat.le_refl _) _ _ _ hB⟩
end Dw
end Go.Proofs.YtdjndoafnoidbaaDoor
