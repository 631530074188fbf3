/-
  The walk of Next of package desig.
-/
import Derived.Test.YtdjndoafnoidbaaDoorDWalk1
namespace Go.Proofs.YtdjndoafnoidbaaDoor
namespace Dw
open Go.RowKit Dp Lw

abbrev desigC (n y u s c : Int) : List Value := [.int .i64 n, .int .i64 y, .int .u8 u, .int .u8 s, .int .i64 c]
theorem info5d : (Tryd.prog.info? 23).map (·.size) = some 5 := by kernel_rfl
/-- A list of designations in memory. -/
structure Lst (w : World) (b off n : Nat) (L : Ls) : Prop where
  row : ∀ k, k < n → w.rangeAt b (off + k * 5) (desigC (L.N k) (L.Y k) (L.U k) (L.S k) (L.C k))
  lt : b < w.heap.size
  u0 : ∀ k, k < n → 0 ≤ L.U k
  u1 : ∀ k, k < n → L.U k < 256
  s0 : ∀ k, k < n → 0 ≤ L.S k
  s1 : ∀ k, k < n → L.S k < 256

def NextPost (L : Ls) (n : Nat) (y h : Int) (w : World) (e : Ending) (w' : World) : Prop := ∃ rn ry rh rs rc k : Int, e = .returned (.tuple #[desigV rn ry rh rs rc, .int .i64 k]) ∧ NextIs L n y h rn ry rh rs rc k ∧ Below w.heap.size w w'
theorem isHalf_dec {h : Int} (g : halfP h) : decide (0 ≤ placeI h) && decide (placeI h < 24) = true := by
  have := (halfP_iff h).1 g; simp; omega
theorem isHalf_dec_no {h : Int} (g : ¬ halfP h) : (decide (0 ≤ placeI h) && decide (placeI h < 24)) = false := by
  have : ¬ (0 ≤ placeI h ∧ placeI h < 24) := fun e => g ((halfP_iff h).2 e)
  simp; omega

set_option maxHeartbeats 2000000 in
theorem next_arg (L : Ls) (a : Option Addr) (n cap : Nat) (y h : Int) (w : World) (hT : Tab w) (h0 : 0 ≤ h) (h1 : h < 256) (hn : ¬ (1800 ≤ y ∧ y ≤ 2099 ∧ halfP h)) :
    Calls Tryd.prog 14 #[.slice a n cap, .int .i64 y, .int .u8 h] w (NextPost L n y h w) := by
  have th := there_new w #[.int .i64 0, .int .i64 0, .int .u8 0, .int .u8 0, .int .i64 0] 23 5 (by simp)
  have hB := (Below.refl w.heap.size w).alloc (Nat.le_refl _) (.cells #[.int .i64 0, .int .i64 0, .int .u8 0, .int .u8 0, .int .i64 0] 23)
  have hT1 := hT.alloc (.cells #[.int .i64 0, .int .i64 0, .int .u8 0, .int .u8 0, .int .i64 0] 23)
  have Hn := Lib.hid hn
  by_cases hp : halfP h
  · have hd := isHalf_dec hp
    have hn2 : y < 1800 ∨ 2099 < y := by
      rcases Int.lt_or_le y 1800 with a | a
      · exact Or.inl a
      · rcases Int.lt_or_le 2099 y with b | b
        · exact Or.inr b
        · exact absurd ⟨a, b, hp⟩ hn
    have Hn2 := Lib.hid hn2
    clear hn hn2
    go_enter Tryd.func14, Tryd.ntmps14
    go_wp2_with (first | (go_at_call 32; refine (isHalf_any _ _ hT1 h0 h1).mono ?_; rintro e w' ⟨rfl, rfl⟩) | (refine wpList_store_mid rfl _ (.tmp 6) (.tmp 24) rfl w.heap.size 0 _ rfl rfl ?_ info5d ?_ ?_; exact th; simp [Value.oneCell']))
    all_goals first
      | (exfalso; rcases Hn2.out with e | e <;> omega)
      | exact bodyPost_ret (ret_cell_tmp Tryd.results14 _ _ w.heap.size (desigC 0 0 0 0 0) _ rfl (World.rangeAt_setCells_same _ _ _ _ th) Tryd.underlying23 rfl info5d) rfl ⟨0, 0, 0, 0, 0, 2, rfl, Or.inl ⟨Hn.out, rfl, rfl, rfl, rfl, rfl, rfl⟩, below_setCells _ (Nat.le_refl _) _ _ _ hB⟩
  · have hd := isHalf_dec_no hp
    clear hn
    go_enter Tryd.func14, Tryd.ntmps14
    go_wp2_with (first | (go_at_call 32; refine (isHalf_any _ _ hT1 h0 h1).mono ?_; rintro e w' ⟨rfl, rfl⟩) | (refine wpList_store_mid rfl _ (.tmp 6) (.tmp 24) rfl w.heap.size 0 _ rfl rfl ?_ info5d ?_ ?_; exact th; simp [Value.oneCell']))
    all_goals
      exact bodyPost_ret (ret_cell_tmp Tryd.results14 _ _ w.heap.size (desigC 0 0 0 0 0) _ rfl (World.rangeAt_setCells_same _ _ _ _ th) Tryd.underlying23 rfl info5d) rfl ⟨0, 0, 0, 0, 0, 2, rfl, Or.inl ⟨Hn.out, rfl, rfl, rfl, rfl, rfl, rfl⟩, below_setCells _ (Nat.le_refl _) _ _ _ hB⟩
end Dw
end Go.Proofs.YtdjndoafnoidbaaDoor
