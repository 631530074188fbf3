/-
  The walk of ToUtc of package moment.
-/
import Derived.Test.YtmgehfakcnmdnaaMWalk4
namespace Go.Proofs.Ytmgehfakcnmdnaa
namespace Mw
open Go.RowKit Mp Lw

theorem info7 : (Try.prog.info? 23).map (·.size) = some 7 := by kernel_rfl
abbrev dateC (y m d h i s u : Int) : List Value := [.int .i64 y, .int .i64 m, .int .i64 d, .int .i64 h, .int .i64 i, .int .i64 s, .int .i64 u]

set_option maxHeartbeats 400000 in
theorem toutc_out (t : Int) (w : World) (h0 : -9223372036854775808 ≤ t) (h1 : t ≤ 9223372036854775807) (h : t < bgv (-10227) 1972 1 ∨ bgv 36525 2100 1 ≤ t) :
    Calls Try.prog 8 #[.int .i64 t] w fun e w' => e = .returned (.tuple #[dateV 0 0 0 0 0 0 0, .int .i64 16]) ∧ Below w.heap.size w w' := by
  have H := Lib.hid h
  clear h
  go_enter Try.func8, Try.ntmps8
  go_wp2_with fail
  refine (day_out t _ h0 h1 H.out).mono ?_
  rintro e w1 ⟨rfl, hb⟩
  have th := there_below (there_new w _ _ 7 (by simp)) hb (by simp)
  have hB := below_then ((Below.refl w.heap.size w).alloc (Nat.le_refl _) _) hb
  clear hb
  go_wp2_with (refine wpList_store_mid rfl _ (.tmp 2) (.tmp 18) rfl w.heap.size 0 _ rfl rfl ?_ info7 ?_ ?_; exact th; simp [Value.oneCell'])
  exact bodyPost_ret (ret_cell_tmp Try.results8 _ _ w.heap.size (dateC 0 0 0 0 0 0 0) _ rfl (World.rangeAt_setCells_same _ _ _ _ th) Try.underlying23 rfl info7) rfl ⟨rfl, below_setCells _ (Nat.le_refl _) _ _ _ hB⟩

theorem mo_bd2 {t n y m z k : Int} (h : DayOf t n y m z k) : 1 ≤ n - mo y m + 1 ∧ n - mo y m + 1 ≤ 31 := by
  have a := mo_len y m h.ym.m1 h.ym.m12
  have b := h.ym.lo
  have c := h.ym.hi
  omega
set_option maxHeartbeats 1000000 in
theorem toutc_in (t n y m z k : Int) (w : World) (h : DayOf t n y m z k) (h1 : bgv (-10227) 1972 1 ≤ t) (h2 : t < bgv 36525 2100 1) :
    Calls Try.prog 8 #[.int .i64 t] w fun e w' => e = .returned (.tuple #[dateV y m (n - mo y m + 1) (mins (t - bgv n y m) / 60) (mins (t - bgv n y m) % 60) ((t - bgv n y m) / 1000000 - 60 * mins (t - bgv n y m)) ((t - bgv n y m) % 1000000), .int .i64 0]) ∧ Below w.heap.size w w' := by
  obtain ⟨p1, p2⟩ := h.pass
  have n1 := h.n1
  have n2 := h.n2
  have y1 := h.y1
  have y2 := h.y2
  have ml := mo_bd2 h
  have H := Lib.hid h
  have H1 := Lib.hid h1
  have H2 := Lib.hid h2
  clear h h1 h2
  generalize hp : t - bgv n y m = p at *
  have Hp := Lib.hid hp
  clear hp
  go_enter Try.func8, Try.ntmps8
  go_wp2_with fail
  refine (day_in t n y m z k _ H.out (Int.not_lt.2 H1.out) (Int.not_le.2 H2.out)).mono ?_
  rintro e w1 ⟨rfl, hb⟩
  rw [Hp.out]
  have th := there_below (there_new w _ _ 7 (by simp)) hb (by simp)
  have hB := below_then ((Below.refl w.heap.size w).alloc (Nat.le_refl _) _) hb
  have hz := hB.size
  clear hb
  go_wp2_with fail
  refine (calendar_any n y m _ H.out.ym (by omega) (by omega)).mono ?_
  rintro e w' ⟨rfl, rfl⟩
  go_wp2_with (refine wpList_store_mid rfl _ (.tmp 2) (.tmp 48) rfl w.heap.size 0 _ rfl rfl ?_ info7 ?_ ?_; exact World.there_alloc th _; simp [Value.oneCell'])
  all_goals
    by_cases hm : p / 1000000 / 60 ≤ 1439
    · have em : mins p = p / 1000000 / 60 := if_pos hm
      first
        | (exfalso; omega)
        | exact bodyPost_ret (ret_cell_tmp Try.results8 _ _ w.heap.size (dateC y m (n - mo y m + 1) (p / 1000000 / 60 / 60) (p / 1000000 / 60 % 60) (p / 1000000 - 60 * (p / 1000000 / 60)) (p % 1000000)) _ rfl (World.rangeAt_setCells_same _ _ _ _ (World.there_alloc th _)) Try.underlying23 rfl info7) rfl ⟨by rw [em]; rfl, below_setCells _ (Nat.le_refl _) _ _ _ (hB.alloc hz _)⟩
    · have em : mins p = 1439 := if_neg hm
      first
        | (exfalso; omega)
        | exact bodyPost_ret (ret_cell_tmp Try.results8 _ _ w.heap.size (dateC y m (n - mo y m + 1) 23 59 (p / 1000000 - 86340) (p % 1000000)) _ rfl (World.rangeAt_setCells_same _ _ _ _ (World.there_alloc th _)) Try.underlying23 rfl info7) rfl ⟨by rw [em]; rfl, below_setCells _ (Nat.le_refl _) _ _ _ (hB.alloc hz _)⟩
end Mw
end Go.Proofs.Ytmgehfakcnmdnaa
