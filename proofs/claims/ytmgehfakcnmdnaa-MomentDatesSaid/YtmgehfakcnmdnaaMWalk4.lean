/-
  The walks of day and ToUtc of package moment.
-/
import Derived.Test.YtmgehfakcnmdnaaMWalk3
namespace Go.Proofs.Ytmgehfakcnmdnaa
namespace Mw
open Go.RowKit Mp Lw

set_option maxHeartbeats 1000000 in
theorem day_out (t : Int) (w : World) (h0 : -9223372036854775808 ≤ t) (h1 : t ≤ 9223372036854775807) (h : t < bgv (-10227) 1972 1 ∨ bgv 36525 2100 1 ≤ t) :
    Calls Try.prog 17 #[.int .i64 t] w fun e w' => e = .returned (.tuple #[.int .i64 0, .int .i64 0, .int .i64 16]) ∧ Below w.heap.size w w' := by
  have b1 := bgv_bd (-10227) 1972 1 (by omega) (by omega)
  have b2 := bgv_bd 36525 2100 1 (by omega) (by omega)
  have H := Lib.hid h
  clear h
  go_enter Try.func17, Try.ntmps17
  go_wp2_with fail
  refine (days_any 1972 1 1 _ (by omega) (by omega) (by omega) (by omega) (by omega) (by omega)).mono ?_
  rintro e w' ⟨rfl, rfl⟩
  rw [dn_72]
  go_wp2_with fail
  refine (begin_any _ 1972 1 _ ym_72 (by omega) (by omega)).mono ?_
  rintro e w1 ⟨rfl, hb1⟩
  by_cases hc : t < bgv (-10227) 1972 1
  · go_wp2_with fail
    go_ret3
    exact ⟨rfl, hb1⟩
  · have hd : bgv 36525 2100 1 ≤ t := by rcases H.out with h | h <;> omega
    go_wp2_with fail
    refine (days_any 2100 1 1 _ (by omega) (by omega) (by omega) (by omega) (by omega) (by omega)).mono ?_
    rintro e w' ⟨rfl, rfl⟩
    rw [dn_00]
    go_wp2_with fail
    refine (begin_any _ 2100 1 _ ym_00 (by omega) (by omega)).mono ?_
    rintro e w2 ⟨rfl, hb2⟩
    go_wp2_with fail
    go_ret3
    exact ⟨rfl, below_then hb1 hb2⟩

set_option maxHeartbeats 2000000 in
theorem day_in (t n y m z k : Int) (w : World) (h : DayOf t n y m z k) (h1 : ¬ t < bgv (-10227) 1972 1) (h2 : ¬ bgv 36525 2100 1 ≤ t) :
    Calls Try.prog 17 #[.int .i64 t] w fun e w' => e = .returned (.tuple #[.int .i64 n, .int .i64 (t - bgv n y m), .int .i64 0]) ∧ Below w.heap.size w w' := by
  have b1 := bgv_bd (-10227) 1972 1 (by omega) (by omega)
  have b2 := bgv_bd 36525 2100 1 (by omega) (by omega)
  obtain ⟨g1, g2⟩ := h.guess
  obtain ⟨p1, p2⟩ := h.pass
  have n1 := h.n1
  have n2 := h.n2
  have H := Lib.hid h
  clear h
  go_enter Try.func17, Try.ntmps17
  go_wp2_with fail
  refine (days_any 1972 1 1 _ (by omega) (by omega) (by omega) (by omega) (by omega) (by omega)).mono ?_
  rintro e w' ⟨rfl, rfl⟩
  rw [dn_72]
  go_wp2_with fail
  refine (begin_any _ 1972 1 _ ym_72 (by omega) (by omega)).mono ?_
  rintro e w1 ⟨rfl, hb1⟩
  go_wp2_with fail
  refine (days_any 2100 1 1 _ (by omega) (by omega) (by omega) (by omega) (by omega) (by omega)).mono ?_
  rintro e w' ⟨rfl, rfl⟩
  rw [dn_00]
  go_wp2_with fail
  refine (begin_any _ 2100 1 _ ym_00 (by omega) (by omega)).mono ?_
  rintro e w2 ⟨rfl, hb2⟩
  have hB := below_then hb1 hb2
  go_wp2_with fail
  go_loopw [2] (fun v wr => ∃ q : Int, n ≤ q ∧ q ≤ n + 2 ∧ v = .int .i64 q ∧ Below w.heap.size w wr) (fun v _ => (intOf v - n).toNat)
  case atStart => exact ⟨_, g1, g2, rfl, hB⟩
  case round =>
    obtain ⟨q, q1, q2, rfl, hBr⟩ := hrel
    by_cases hq : q = n
    · subst hq
      have e1 : ¬ t < bgv q y m := by have := H.out.lo; omega
      go_wp2_with (go_at_call 14; refine (begin_any _ y m _ H.out.ym (by have := H.out.y1; omega) (by have := H.out.y2; omega)).mono ?_; rintro e w3 ⟨rfl, hb3⟩)
      have hB3 := below_then hBr hb3
      go_loopw [2] (fun v wr => v = .int .i64 q ∧ Below w.heap.size w wr) (fun _ _ => 0)
      case atStart => exact ⟨rfl, hB3⟩
      case round =>
        obtain ⟨rfl, hBs⟩ := hrel
        have e2 : ¬ bgv (q + 1) z k ≤ t := by have := H.out.hi; omega
        obtain ⟨zy, zz⟩ : 1971 ≤ z ∧ z ≤ 2100 := by
          have a1 := H.out.y1
          have a2 := H.out.y2
          have a3 := H.out.ym.m1
          have a4 := H.out.ym.m12
          have a5 := H.out.zk.m1
          have a6 := H.out.zk.m12
          rcases next_ym H.out.ym H.out.zk with ⟨r1, _, _⟩ | ⟨r1, _⟩ <;> omega
        go_wp2_with fail
        refine (begin_any _ z k _ H.out.zk zy zz).mono ?_
        rintro e w4 ⟨rfl, hb4⟩
        have hB4 := below_then hBs hb4
        go_wp2_with fail
        refine (begin_any _ y m _ H.out.ym (by have := H.out.y1; omega) (by have := H.out.y2; omega)).mono ?_
        rintro e w5 ⟨rfl, hb5⟩
        have bq := bgv_bd q y m (by omega) (by omega)
        go_wp2_with fail
        go_ret3
        exact ⟨rfl, below_then hB4 hb5⟩
    · obtain ⟨y', m', y1', y2', hy⟩ := ym_ex q (by omega) (by omega)
      have e1 : t < bgv q y' m' := by
        rcases Int.lt_or_le t (bgv q y' m') with e | e
        · exact e
        · have := H.out.le hy e; omega
      go_wp2_with (go_at_call 14; refine (begin_any _ y' m' _ hy y1' y2').mono ?_; rintro e w3 ⟨rfl, hb3⟩)
      go_roundw
      case rel => exact ⟨q - 1, by omega, by omega, rfl, below_then hBr hb3⟩
      case measure => simp [intOf]; omega
end Mw
end Go.Proofs.Ytmgehfakcnmdnaa
