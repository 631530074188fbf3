/-
  The walks of cmp.Compare, cmp.Or, compare and Compare of package desig.
-/
import Derived.Test.YtdjndoafnoidbaaDoorDWalk1
import Derived.Deep.RegionHeld3
import Derived.StillTailTactics
namespace Go.Proofs.YtdjndoafnoidbaaDoor
namespace Dw
open Go.RowKit Dp Lw

set_option maxHeartbeats 400000 in
theorem nan_i64 (a : Int) (w : World) : Calls Tryd.prog 58 #[.int .i64 a] w fun e w' => e = .returned (.bool false) ∧ w' = w := by
  go_enter Tryd.func58, Tryd.ntmps58
  go_wp2
  go_ret
  exact ⟨ret_bool (by simp), rfl⟩
set_option maxHeartbeats 400000 in
theorem cmp_i64 (a b : Int) (w : World) : Calls Tryd.prog 46 #[.int .i64 a, .int .i64 b] w fun e w' => e = .returned (.int .i64 (sgn a b)) ∧ w' = w := by
  by_cases h1 : a < b
  · go_enter Tryd.func46, Tryd.ntmps46
    go_wp2_with (go_at_call 58; refine (nan_i64 _ _).mono ?_; rintro e w' ⟨rfl, rfl⟩)
    go_ret
    exact ⟨ret_int (sgn_lt h1).symm, rfl⟩
  · by_cases h2 : b < a
    · go_enter Tryd.func46, Tryd.ntmps46
      go_wp2_with (go_at_call 58; refine (nan_i64 _ _).mono ?_; rintro e w' ⟨rfl, rfl⟩)
      go_ret
      exact ⟨ret_int (sgn_gt h2).symm, rfl⟩
    · go_enter Tryd.func46, Tryd.ntmps46
      go_wp2_with (go_at_call 58; refine (nan_i64 _ _).mono ?_; rintro e w' ⟨rfl, rfl⟩)
      go_ret
      exact ⟨ret_int (sgn_eq (by omega)).symm, rfl⟩
set_option maxHeartbeats 400000 in
theorem nan_u8 (a : Int) (w : World) : Calls Tryd.prog 59 #[.int .u8 a] w fun e w' => e = .returned (.bool false) ∧ w' = w := by
  go_enter Tryd.func59, Tryd.ntmps59
  go_wp2
  go_ret
  exact ⟨ret_bool (by simp), rfl⟩
set_option maxHeartbeats 400000 in
theorem cmp_u8 (a b : Int) (w : World) : Calls Tryd.prog 48 #[.int .u8 a, .int .u8 b] w fun e w' => e = .returned (.int .i64 (sgn a b)) ∧ w' = w := by
  by_cases h1 : a < b
  · go_enter Tryd.func48, Tryd.ntmps48
    go_wp2_with (go_at_call 59; refine (nan_u8 _ _).mono ?_; rintro e w' ⟨rfl, rfl⟩)
    go_ret
    exact ⟨ret_int (sgn_lt h1).symm, rfl⟩
  · by_cases h2 : b < a
    · go_enter Tryd.func48, Tryd.ntmps48
      go_wp2_with (go_at_call 59; refine (nan_u8 _ _).mono ?_; rintro e w' ⟨rfl, rfl⟩)
      go_ret
      exact ⟨ret_int (sgn_gt h2).symm, rfl⟩
    · go_enter Tryd.func48, Tryd.ntmps48
      go_wp2_with (go_at_call 59; refine (nan_u8 _ _).mono ?_; rintro e w' ⟨rfl, rfl⟩)
      go_ret
      exact ⟨ret_int (sgn_eq (by omega)).symm, rfl⟩

set_option maxHeartbeats 400000 in
theorem or_any (g : Nat) (f : Nat → Int) (w : World) (hc : ∀ j, j < 6 → w.cell? ⟨g, j, none⟩ = some (.int .i64 (f j))) :
    Calls Tryd.prog 47 #[.slice (some ⟨g, 0, none⟩) 6 6] w fun e w' => e = .returned (.int .i64 (orRem f 0 6)) ∧ w = w' := by
  have Hc := Lib.hid hc
  clear hc
  go_enter Tryd.func47, Tryd.ntmps47
  go_wp2
  go_loop [5, 8] (fun x i => ∃ j : Nat, j ≤ 6 ∧ i = .int .i64 j ∧ Hid (orRem f 0 6 = orRem f j (6 - j))) (fun _ i => 6 - (intOf i).toNat)
  case atStart => exact ⟨0, by omega, rfl, Lib.hid rfl⟩
  case round =>
    obtain ⟨j, hj, rfl, hO⟩ := hrel
    by_cases hlt : j < 6
    · have ck := Hc.out j hlt
      have i1 : (j : Int) < 6 := by omega
      have es : orRem f j (6 - j) = if f j = 0 then orRem f (j + 1) (6 - (j + 1)) else f j := by
        rw [show 6 - j = (6 - (j + 1)) + 1 by omega]; rfl
      by_cases he : f j = 0
      · rw [if_pos he] at es
        have Es := Lib.hid es
        have e1 : (f j != 0) = false := by simp [he]
        have He := Lib.hid he
        clear he es
        go_wp2
        go_round
        case rel => exact ⟨j + 1, by omega, by go_num, Lib.hid (hO.out.trans Es.out)⟩
        case measure => simp [intOf]; omega
      · rw [if_neg he] at es
        have Es := Lib.hid es
        have e1 : (f j != 0) = true := bne_iff_ne.2 he
        clear he es
        go_wp2
        go_ret
        exact ⟨ret_int (hO.out.trans Es.out).symm, rfl⟩
    · obtain rfl : j = 6 := by omega
      go_wp2
      go_ret
      exact ⟨ret_int (by rw [hO.out]; rfl), rfl⟩

theorem seq_cells (w : World) (a b c d e f : Int) (T : TypeId) : ∀ j, j < 6 → (w.alloc (.cells #[.int .i64 a, .int .i64 b, .int .i64 c, .int .i64 d, .int .i64 e, .int .i64 f] T)).cell? ⟨w.heap.size, j, none⟩ = some (.int .i64 (seqAt [a, b, c, d, e, f] j)) := fun j hj => by
  rw [World.cell?_alloc_at _ _ _ _ rfl]
  match j, hj with
  | 0, _ => rfl
  | 1, _ => rfl
  | 2, _ => rfl
  | 3, _ => rfl
  | 4, _ => rfl
  | 5, _ => rfl

theorem seq_cells_d (w : World) (a b c d e f : Int) (T : TypeId) : ∀ j, j < 6 → (w.alloc (.cells #[.int .i64 a, .int .i64 b, .int .i64 c, .int .i64 d, .int .i64 e, .int .i64 f] T)).drew.cell? ⟨w.heap.size, j, none⟩ = some (.int .i64 (seqAt [a, b, c, d, e, f] j)) := seq_cells w a b c d e f T
/-- What a walk over two boxed designations knows of its world. -/
structure Two (w W : World) (n y u s c n' y' u' s' c' : Int) : Prop where
  a0 : W.cell? ⟨w.heap.size, 0, none⟩ = some (.int .i64 n)
  a1 : W.cell? ⟨w.heap.size, 1, none⟩ = some (.int .i64 y)
  a2 : W.cell? ⟨w.heap.size, 2, none⟩ = some (.int .u8 u)
  a3 : W.cell? ⟨w.heap.size, 3, none⟩ = some (.int .u8 s)
  a4 : W.cell? ⟨w.heap.size, 4, none⟩ = some (.int .i64 c)
  b0 : W.cell? ⟨w.heap.size + 1, 0, none⟩ = some (.int .i64 n')
  b1 : W.cell? ⟨w.heap.size + 1, 1, none⟩ = some (.int .i64 y')
  b2 : W.cell? ⟨w.heap.size + 1, 2, none⟩ = some (.int .u8 u')
  b3 : W.cell? ⟨w.heap.size + 1, 3, none⟩ = some (.int .u8 s')
  b4 : W.cell? ⟨w.heap.size + 1, 4, none⟩ = some (.int .i64 c')
  below : Below w.heap.size w W
  size : w.heap.size + 1 < W.heap.size
theorem two_new (w : World) (n y u s c n' y' u' s' c' : Int) : Two w ((w.alloc (.cells #[.int .i64 n, .int .i64 y, .int .u8 u, .int .u8 s, .int .i64 c] 23)).alloc (.cells #[.int .i64 n', .int .i64 y', .int .u8 u', .int .u8 s', .int .i64 c'] 23)) n y u s c n' y' u' s' c' := by
  constructor
  iterate 5 (rw [World.cell?_alloc_past _ _ _ (by simp), World.cell?_alloc_at _ _ _ _ rfl]; rfl)
  iterate 5 (rw [World.cell?_alloc_at _ _ _ _ (by simp)]; rfl)
  · exact ((Below.refl _ _).alloc (Nat.le_refl _) _).alloc (by simp) _
  · simp
set_option maxRecDepth 100000 in
set_option maxHeartbeats 2000000 in
theorem compare_any (n y u s c n' y' u' s' c' : Int) (w : World) (a0 : 0 ≤ n) (a1 : n ≤ 15396335) (b0 : 0 ≤ n') (b1 : n' ≤ 15396335) :
    Calls Tryd.prog 30 #[desigV n y u s c, desigV n' y' u' s' c'] w fun e w' => e = .returned (.int .i64 (cmpP n y u s c n' y' u' s' c')) ∧ Below w.heap.size w w' := by
  by_cases hn : 1 ≤ n
  · by_cases hn' : 1 ≤ n'
    · skip
      go_enter Tryd.func30, Tryd.ntmps30
      go_wp2_with fail
      refine (cmp_i64 _ _ _).mono ?_
      rintro e w' ⟨rfl, rfl⟩
      have tw := two_new w n y u s c n' y' u' s' c'
      generalize (w.alloc (.cells #[.int .i64 n, .int .i64 y, .int .u8 u, .int .u8 s, .int .i64 c] 23)).alloc (.cells #[.int .i64 n', .int .i64 y', .int .u8 u', .int .u8 s', .int .i64 c'] 23) = W at *
      obtain ⟨a0, a1, a2, a3, a4, b0, b1, b2, b3, b4, hB, hz⟩ := tw
      have q1 := sgn_bd (1) (1)
      go_wp2_with fail
      go_still_tail 27, (by kernel_rfl)
      still_call (cmp_i64 _ _ _)
      repeat still_step
      still_call (cmp_i64 _ _ _)
      repeat still_step
      still_call (cmp_u8 _ _ _)
      repeat still_step
      still_call (cmp_i64 _ _ _)
      repeat still_step
      still_call (cmp_u8 _ _ _)
      repeat still_step
      try refine wpStill_nil ?_
      change wpList _ _ _ _ _ W.drew
      go_wp2_with (go_at_call 47; refine (or_any _ _ _ (seq_cells_d _ _ _ _ _ _ _ _)).mono ?_; rintro e w' ⟨rfl, rfl⟩)
      go_ret
      exact ⟨ret_int (by rw [or_six]; unfold cmpP; rw [show min1 n = 1 from if_pos hn, show min1 n' = 1 from if_pos hn']), (hB.alloc hB.size _).drew⟩
    · obtain rfl : n' = 0 := by omega
      go_enter Tryd.func30, Tryd.ntmps30
      go_wp2_with fail
      refine (cmp_i64 _ _ _).mono ?_
      rintro e w' ⟨rfl, rfl⟩
      have tw := two_new w n y u s c 0 y' u' s' c'
      generalize (w.alloc (.cells #[.int .i64 n, .int .i64 y, .int .u8 u, .int .u8 s, .int .i64 c] 23)).alloc (.cells #[.int .i64 0, .int .i64 y', .int .u8 u', .int .u8 s', .int .i64 c'] 23) = W at *
      obtain ⟨a0, a1, a2, a3, a4, b0, b1, b2, b3, b4, hB, hz⟩ := tw
      have q1 := sgn_bd (1) (0)
      go_wp2_with fail
      go_still_tail 27, (by kernel_rfl)
      still_call (cmp_i64 _ _ _)
      repeat still_step
      still_call (cmp_i64 _ _ _)
      repeat still_step
      still_call (cmp_u8 _ _ _)
      repeat still_step
      still_call (cmp_i64 _ _ _)
      repeat still_step
      still_call (cmp_u8 _ _ _)
      repeat still_step
      try refine wpStill_nil ?_
      change wpList _ _ _ _ _ W.drew
      go_wp2_with (go_at_call 47; refine (or_any _ _ _ (seq_cells_d _ _ _ _ _ _ _ _)).mono ?_; rintro e w' ⟨rfl, rfl⟩)
      go_ret
      exact ⟨ret_int (by rw [or_six]; unfold cmpP; rw [show min1 n = 1 from if_pos hn, show min1 0 = 0 from rfl]), (hB.alloc hB.size _).drew⟩
  · obtain rfl : n = 0 := by omega
    by_cases hn' : 1 ≤ n'
    · skip
      go_enter Tryd.func30, Tryd.ntmps30
      go_wp2_with fail
      refine (cmp_i64 _ _ _).mono ?_
      rintro e w' ⟨rfl, rfl⟩
      have tw := two_new w 0 y u s c n' y' u' s' c'
      generalize (w.alloc (.cells #[.int .i64 0, .int .i64 y, .int .u8 u, .int .u8 s, .int .i64 c] 23)).alloc (.cells #[.int .i64 n', .int .i64 y', .int .u8 u', .int .u8 s', .int .i64 c'] 23) = W at *
      obtain ⟨a0, a1, a2, a3, a4, b0, b1, b2, b3, b4, hB, hz⟩ := tw
      have q1 := sgn_bd (0) (1)
      go_wp2_with fail
      go_still_tail 27, (by kernel_rfl)
      still_call (cmp_i64 _ _ _)
      repeat still_step
      still_call (cmp_i64 _ _ _)
      repeat still_step
      still_call (cmp_u8 _ _ _)
      repeat still_step
      still_call (cmp_i64 _ _ _)
      repeat still_step
      still_call (cmp_u8 _ _ _)
      repeat still_step
      try refine wpStill_nil ?_
      change wpList _ _ _ _ _ W.drew
      go_wp2_with (go_at_call 47; refine (or_any _ _ _ (seq_cells_d _ _ _ _ _ _ _ _)).mono ?_; rintro e w' ⟨rfl, rfl⟩)
      go_ret
      exact ⟨ret_int (by rw [or_six]; unfold cmpP; rw [show min1 0 = 0 from rfl, show min1 n' = 1 from if_pos hn']), (hB.alloc hB.size _).drew⟩
    · obtain rfl : n' = 0 := by omega
      go_enter Tryd.func30, Tryd.ntmps30
      go_wp2_with fail
      refine (cmp_i64 _ _ _).mono ?_
      rintro e w' ⟨rfl, rfl⟩
      have tw := two_new w 0 y u s c 0 y' u' s' c'
      generalize (w.alloc (.cells #[.int .i64 0, .int .i64 y, .int .u8 u, .int .u8 s, .int .i64 c] 23)).alloc (.cells #[.int .i64 0, .int .i64 y', .int .u8 u', .int .u8 s', .int .i64 c'] 23) = W at *
      obtain ⟨a0, a1, a2, a3, a4, b0, b1, b2, b3, b4, hB, hz⟩ := tw
      have q1 := sgn_bd (0) (0)
      go_wp2_with fail
      go_still_tail 27, (by kernel_rfl)
      still_call (cmp_i64 _ _ _)
      repeat still_step
      still_call (cmp_i64 _ _ _)
      repeat still_step
      still_call (cmp_u8 _ _ _)
      repeat still_step
      still_call (cmp_i64 _ _ _)
      repeat still_step
      still_call (cmp_u8 _ _ _)
      repeat still_step
      try refine wpStill_nil ?_
      change wpList _ _ _ _ _ W.drew
      go_wp2_with (go_at_call 47; refine (or_any _ _ _ (seq_cells_d _ _ _ _ _ _ _ _)).mono ?_; rintro e w' ⟨rfl, rfl⟩)
      go_ret
      exact ⟨ret_int (by rw [or_six]; unfold cmpP; rw [show min1 0 = 0 from rfl]), (hB.alloc hB.size _).drew⟩
end Dw
end Go.Proofs.YtdjndoafnoidbaaDoor
