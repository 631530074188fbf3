/-
  The walks of begins and seconds of the reference, and of Leap of both.
-/
import Derived.Test.YtmgehfakcnmdnaaDoorMRef2
namespace Go.Proofs.YtmgehfakcnmdnaaDoor
namespace Mw
open Go.RowKit Mp Lw

theorem mo_bds (z k : Int) (a : 1900 ≤ z) (b : z ≤ 2201) (c : 1 ≤ k) (d : k ≤ 13) : -40000 ≤ mo z k ∧ mo z k ≤ 80000 := by unfold mo dn fday; split <;> omega

set_option maxRecDepth 100000 in
set_option maxHeartbeats 1000000 in
theorem begins_in (y m d : Int) (w : World) (h : 1972 ≤ y) (h' : y ≤ 2100) (h1 : 1 ≤ m) (h2 : m ≤ 12) (h3 : 1 ≤ d) (h4 : d ≤ mo y (m + 1) - mo y m) :
    Calls Tryd.prog 31 #[.int .i64 y, .int .i64 m, .int .i64 d] w fun e w' => e = .returned (.int .i64 (bgv (mo y m + d - 1) y m)) ∧ Below w.heap.size w w' := by
  obtain ⟨ml1, ml2⟩ := mo_len y m h1 h2
  have c1 : ¬ mo y (m + 1) - mo y m < d := by omega
  have hl := lps_bd (12 * (y) + m - 1)
  obtain ⟨b3, b4⟩ := mo_bds (y) (m) (by omega) (by omega) (by omega) (by omega)
  have Fin := Lib.hid (show (mo (y) (m) + 10227 + (d - 1) - (mo 2000 1 + 10227)) * 86400 * 1000000 - 43200000000 + lps (12 * (y) + m - 1) * 1000000 + 32184000 = bgv (mo (y) (m) + d - 1) (y) (m) by rw [mo_2000]; unfold bgv; omega)
  go_enter Tryd.func31, Tryd.ntmps31
  go_wp2_with fail
  refine (length_any _ _ _ (by omega) (by omega) (by omega)).mono ?_
  rintro e w1 ⟨rfl, hb1⟩
  go_wp2_with fail
  refine (before_any _ _ _ (by omega) (by omega) (by omega) (by omega)).mono ?_
  rintro e w2 ⟨rfl, hb2⟩
  have hB2 := below_then hb1 hb2
  go_wp2_with fail
  refine (before_any _ _ _ (by omega) (by omega) (by omega) (by omega)).mono ?_
  rintro e w3 ⟨rfl, hb3⟩
  have hB3 := below_then hB2 hb3
  have m20 : mo 2000 1 ≤ 0 ∧ 0 ≤ mo 2000 1 := by rw [mo_2000]; omega
  go_wp2_with fail
  refine (leaps_any _ _ _ (by omega) (by omega)).mono ?_
  rintro e w4 ⟨rfl, hb4⟩
  have hB4 := below_then hB3 hb4
  go_wp2_with fail
  go_ret
  exact ⟨ret_int Fin.out, hB4⟩

set_option maxRecDepth 100000 in
set_option maxHeartbeats 1000000 in
theorem begins_month (y m : Int) (w : World) (h : 1972 ≤ y) (h' : y ≤ 2100) (h1 : 1 ≤ m) (h2 : m < 12) (d : Int) (hd : d = mo y (m + 1) - mo y m + 1) :
    Calls Tryd.prog 31 #[.int .i64 y, .int .i64 m, .int .i64 d] w fun e w' => e = .returned (.int .i64 (bgv (mo y (m + 1) + 1 - 1) y (m + 1))) ∧ Below w.heap.size w w' := by
  obtain ⟨ml1, ml2⟩ := mo_len y m h1 (by omega)
  have c1 : mo y (m + 1) - mo y m < d := by omega
  have d1 : d ≤ 40 := by omega
  clear hd
  have c2 : ¬ 12 < m + 1 := by omega
  have hl := lps_bd (12 * y + (m + 1) - 1)
  obtain ⟨b3, b4⟩ := mo_bds (y) (m + 1) (by omega) (by omega) (by omega) (by omega)
  have Fin := Lib.hid (show (mo (y) (m + 1) + 10227 - (mo 2000 1 + 10227)) * 86400 * 1000000 - 43200000000 + lps (12 * y + (m + 1) - 1) * 1000000 + 32184000 = bgv (mo (y) (m + 1) + 1 - 1) (y) (m + 1) by rw [mo_2000]; unfold bgv; omega)
  go_enter Tryd.func31, Tryd.ntmps31
  go_wp2_with fail
  refine (length_any _ _ _ (by omega) (by omega) (by omega)).mono ?_
  rintro e w1 ⟨rfl, hb1⟩
  go_wp2_with fail
  refine (before_any _ _ _ (by omega) (by omega) (by omega) (by omega)).mono ?_
  rintro e w2 ⟨rfl, hb2⟩
  have hB2 := below_then hb1 hb2
  go_wp2_with fail
  refine (before_any _ _ _ (by omega) (by omega) (by omega) (by omega)).mono ?_
  rintro e w3 ⟨rfl, hb3⟩
  have hB3 := below_then hB2 hb3
  have m20 : mo 2000 1 ≤ 0 ∧ 0 ≤ mo 2000 1 := by rw [mo_2000]; omega
  go_wp2_with fail
  refine (leaps_any _ _ _ (by omega) (by omega)).mono ?_
  rintro e w4 ⟨rfl, hb4⟩
  have hB4 := below_then hB3 hb4
  go_wp2_with fail
  go_ret
  exact ⟨ret_int Fin.out, hB4⟩

set_option maxRecDepth 100000 in
set_option maxHeartbeats 1000000 in
theorem begins_year (y : Int) (w : World) (h : 1972 ≤ y) (h' : y ≤ 2100) (d : Int) (hd : d = mo y 13 - mo y 12 + 1) :
    Calls Tryd.prog 31 #[.int .i64 y, .int .i64 12, .int .i64 d] w fun e w' => e = .returned (.int .i64 (bgv (mo (y + 1) 1 + 1 - 1) (y + 1) 1)) ∧ Below w.heap.size w w' := by
  obtain ⟨ml1, ml2⟩ := mo_len y 12 (by omega) (by omega)
  have c1 : mo y 13 - mo y 12 < d := by omega
  have d1 : d ≤ 40 := by rw [show (12 : Int) + 1 = 13 by omega] at ml2; omega
  clear hd
  have hl := lps_bd (12 * (y + 1))
  obtain ⟨b3, b4⟩ := mo_bds (y + 1) (1) (by omega) (by omega) (by omega) (by omega)
  have Fin := Lib.hid (show (mo (y + 1) (1) + 10227 - (mo 2000 1 + 10227)) * 86400 * 1000000 - 43200000000 + lps (12 * (y + 1)) * 1000000 + 32184000 = bgv (mo (y + 1) (1) + 1 - 1) (y + 1) (1) by rw [mo_2000]; unfold bgv; simp only [Int.add_sub_cancel]; omega)
  go_enter Tryd.func31, Tryd.ntmps31
  go_wp2_with fail
  refine (length_any _ _ _ (by omega) (by omega) (by omega)).mono ?_
  rintro e w1 ⟨rfl, hb1⟩
  go_wp2_with fail
  refine (before_any _ _ _ (by omega) (by omega) (by omega) (by omega)).mono ?_
  rintro e w2 ⟨rfl, hb2⟩
  have hB2 := below_then hb1 hb2
  go_wp2_with fail
  refine (before_any _ _ _ (by omega) (by omega) (by omega) (by omega)).mono ?_
  rintro e w3 ⟨rfl, hb3⟩
  have hB3 := below_then hB2 hb3
  have m20 : mo 2000 1 ≤ 0 ∧ 0 ≤ mo 2000 1 := by rw [mo_2000]; omega
  go_wp2_with fail
  refine (leaps_any _ _ _ (by omega) (by omega)).mono ?_
  rintro e w4 ⟨rfl, hb4⟩
  have hB4 := below_then hB3 hb4
  go_wp2_with fail
  go_ret
  exact ⟨ret_int Fin.out, hB4⟩

theorem begins_any (y m d z k : Int) (w : World) (h : 1972 ≤ y) (h' : y ≤ 2100) (h1 : 1 ≤ m) (h2 : m ≤ 12) (h3 : 1 ≤ d) (h4 : d ≤ mo y (m + 1) - mo y m + 1) (hz : IsYM (mo y m + d - 1) z k) :
    Calls Tryd.prog 31 #[.int .i64 y, .int .i64 m, .int .i64 d] w fun e w' => e = .returned (.int .i64 (bgv (mo y m + d - 1) z k)) ∧ Below w.heap.size w w' := by
  by_cases c1 : d ≤ mo y (m + 1) - mo y m
  · obtain ⟨rfl, rfl⟩ := ym_uniq hz (z := y) (k := m) ⟨h1, h2, by omega, by omega⟩
    exact begins_in z k d w h h' h1 h2 h3 c1
  · have hd : d = mo y (m + 1) - mo y m + 1 := by omega
    have hn : mo y m + d - 1 = mo y (m + 1) := by omega
    rw [hn] at hz ⊢
    by_cases c2 : m < 12
    · have := mo_len y (m + 1) (by omega) (by omega)
      obtain ⟨rfl, rfl⟩ := ym_uniq hz (z := y) (k := m + 1) ⟨by omega, by omega, by omega, by omega⟩
      have hB := begins_month z m w h h' h1 c2 d hd
      rw [Int.add_sub_cancel] at hB
      exact hB
    · obtain rfl : m = 12 := by omega
      have e13 : mo y (12 + 1) = mo (y + 1) 1 := mo_13 y
      have := mo_len (y + 1) 1 (by omega) (by omega)
      rw [e13] at hz ⊢
      obtain ⟨rfl, rfl⟩ := ym_uniq hz (z := y + 1) (k := 1) ⟨by omega, by omega, by omega, by omega⟩
      have hB := begins_year y w h h' d hd
      rw [Int.add_sub_cancel] at hB
      exact hB

/-- How many seconds a day has. -/
def secs (y m d : Int) : Int := if d = mo y (m + 1) - mo y m ∧ lps (12 * y + m) = lps (12 * y + m - 1) + 1 then 86401 else 86400
set_option maxRecDepth 100000 in
set_option maxHeartbeats 1000000 in
theorem seconds_any (y m d : Int) (w : World) (hw : wholeP y m d) :
    Calls Tryd.prog 25 #[.int .i64 y, .int .i64 m, .int .i64 d] w fun e w' => e = .returned (.int .i64 (secs y m d)) ∧ Below w.heap.size w w' := by
  have hI := wholeP_ym hw
  obtain ⟨n1, n2⟩ := wholeP_range hw
  obtain ⟨z, k, z1, z2, hz⟩ := ym_ex (dn y m d + 1) (by omega) (by omega)
  have hl := day_len hw hz
  have bd := bgv_bd (dn y m d) y m (by omega) (by omega)
  have bd2 := bgv_bd (dn y m d + 1) z k (by omega) (by omega)
  rw [dn_mo] at hz hl hI bd bd2
  have e1 : mo y m + d - 1 + 1 = mo y m + (d + 1) - 1 := by omega
  rw [e1] at hz hl bd2
  obtain ⟨a1, a2, a3, a4, a5, a6⟩ := hw
  obtain ⟨ml1, ml2⟩ := mo_len y m a3 a4
  have Hs : Hid (∃ B C, B = bgv (mo y m + (d + 1) - 1) z k ∧ C = bgv (mo y m + d - 1) y m ∧ 0 ≤ B - C ∧ (B - C) / 1000000 = secs y m d) := by
    refine ⟨_, _, rfl, rfl, ?_, ?_⟩
    · rcases hl with ⟨g, _⟩ | ⟨g, _⟩ <;> omega
    · rcases hl with ⟨g, f⟩ | ⟨g, f⟩
      · unfold leapday at f; rw [secs, if_neg f]; omega
      · unfold leapday at f; rw [secs, if_pos f]; omega
  obtain ⟨B, C, hB, hC, p1, p2⟩ := Hs.out
  rw [← hB] at bd2
  rw [← hC] at bd
  have HB := Lib.hid hB
  have HC := Lib.hid hC
  have P2 := Lib.hid p2
  have Hz := Lib.hid hz
  have HI := Lib.hid hI
  clear hl hB hC p2 e1 hz hI Hs
  go_enter Tryd.func25, Tryd.ntmps25
  go_wp2_with fail
  refine (begins_any y m (d + 1) z k _ (by omega) (by omega) a3 a4 (by omega) (by omega) Hz.out).mono ?_
  rintro e w1 ⟨rfl, hb1⟩
  rw [← HB.out]
  go_wp2_with fail
  refine (begins_any y m d y m _ (by omega) (by omega) a3 a4 (by omega) (by omega) HI.out).mono ?_
  rintro e w2 ⟨rfl, hb2⟩
  rw [← HC.out]
  go_wp2_with fail
  go_ret
  exact ⟨ret_int P2.out, below_then hb1 hb2⟩
end Mw
end Go.Proofs.YtmgehfakcnmdnaaDoor
