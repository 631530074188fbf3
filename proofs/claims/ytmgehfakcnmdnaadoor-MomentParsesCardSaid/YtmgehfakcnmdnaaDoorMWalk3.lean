/-
  The walks of begin, whole, FromUtc, day and ToUtc of package moment.
-/
import Derived.Test.YtmgehfakcnmdnaaDoorMWalk2
namespace Go.Proofs.YtmgehfakcnmdnaaDoor
namespace Mw
open Go.RowKit Mp Lw

abbrev dateV (y m d h i s u : Int) : Value := .agg #[.int .i64 y, .int .i64 m, .int .i64 d, .int .i64 h, .int .i64 i, .int .i64 s, .int .i64 u]

set_option maxHeartbeats 400000 in
theorem begin_any (n y m : Int) (w : World) (h : IsYM n y m) (a : 1971 ≤ y) (b : y ≤ 2100) :
    Calls Tryd.prog 21 #[.int .i64 n] w fun e w' => e = .returned (.int .i64 (bgv n y m)) ∧ Below w.heap.size w w' := by
  obtain ⟨n1, n2⟩ := h.range a b
  have M1 := h.m1
  have M2 := h.m12
  have lb := lps_bd (12 * y + m - 1)
  have Hh := Lib.hid h
  clear h
  go_enter Tryd.func21, Tryd.ntmps21
  go_wp2_with (first | (go_at_call 35; refine (calendar_any n y m _ Hh.out a b).mono ?_; rintro e w' ⟨rfl, rfl⟩) | (go_at_call 36; refine (leap_any _ _).mono ?_; rintro e w1 ⟨rfl, hb⟩))
  go_ret
  exact ⟨rfl, hb⟩

theorem ret_bool {a b : Bool} (h : a = b) : Ending.returned (.bool a) = .returned (.bool b) := by rw [h]
set_option maxHeartbeats 1000000 in
theorem whole_any (y m d h i s u : Int) (w : World) :
    Calls Tryd.prog 29 #[dateV y m d h i s u] w fun e w' => e = .returned (.bool (wholeB y m d)) ∧ Below w.heap.size w w' := by
  go_enter Tryd.func29, Tryd.ntmps29
  go_wp2_with fail
  rotate_left
  rotate_left
  rotate_right
  · have a1 : 1972 ≤ y := by omega
    have a2 : y < 2100 := by omega
    have a3 : 1 ≤ m := by omega
    have a4 : m ≤ 12 := by omega
    have a5 : 1 ≤ d := by omega
    have a6 : d ≤ 31 := by omega
    obtain ⟨ml1, ml2⟩ := mo_len y m a3 a4
    have dm := dn_mo y m d
    have yr := mo_year_le 1972 y a1
    have yr2 := mo_year_le (y + 1) 2100 (by omega)
    have m1 := mo_le y 1 m (by omega) a3
    have m2 := mo_le y (m + 1) 13 (by omega) (by omega)
    rw [mo_13] at m2
    rw [mo_year 1972] at yr
    rw [mo_year 2100] at yr2
    obtain ⟨z, k, z1, z2, hz⟩ := ym_ex (dn y m d) (by omega) (by omega)
    have Dm := Lib.hid dm
    clear dm ml1 ml2 yr yr2 m1 m2
    refine (days_any _ _ _ _ (by omega) (by omega) (by omega) (by omega) (by omega) (by omega)).mono ?_
    rintro e w' ⟨rfl, rfl⟩
    go_wp2_with fail
    refine (calendar_any _ z k _ hz z1 z2).mono ?_
    rintro e w' ⟨rfl, rfl⟩
    by_cases hw : wholeP y m d
    · obtain ⟨rfl, rfl⟩ := ym_uniq hz (wholeP_ym hw)
      have e3 : dn z k d - mo z k + 1 = d := by rw [Dm.out]; omega
      rw [e3]
      clear e3
      go_wp2_with fail
      go_ret
      exact ⟨ret_bool (by first | exact wholeB_yes hw | (rw [← wholeB_yes hw]; simp)), (Below.refl _ _).alloc (Nat.le_refl _) _⟩
    · have hne : ¬ (z = y ∧ k = m) := by
        rintro ⟨rfl, rfl⟩
        have h1 := hz.hi
        rw [Dm.out] at h1
        exact hw ⟨a1, a2, a3, a4, a5, by omega⟩
      go_wp2_with fail
      all_goals
        go_ret
        exact ⟨ret_bool (wholeB_no hw), (Below.refl _ _).alloc (Nat.le_refl _) _⟩
  all_goals
    go_ret
    exact ⟨ret_bool (wholeB_no (fun ⟨b1, b2, b3, b4, b5, b6⟩ => by have := mo_len y m b3 b4; omega)), (Below.refl _ _).alloc (Nat.le_refl _) _⟩

/-- What FromUtc does, in the program and in the reference. -/
def FromPost (y m d h i s u : Int) (w : World) (e : Ending) (w' : World) : Prop := ∃ t c : Int, e = .returned (.tuple #[.int .i64 t, .int .i64 c]) ∧ FromIs y m d h i s u t c ∧ Below w.heap.size w w'

set_option maxHeartbeats 2000000 in
theorem from_any (y m d h i s u : Int) (w : World) :
    Calls Tryd.prog 11 #[dateV y m d h i s u] w (FromPost y m d h i s u w) := by
  by_cases hw : wholeP y m d
  · have hB := (wholeB_iff y m d).2 hw
    have hI := wholeP_ym hw
    obtain ⟨n1, n2⟩ := wholeP_range hw
    obtain ⟨z, k, z1, z2, hz⟩ := ym_ex (dn y m d + 1) (by omega) (by omega)
    have Hl := Lib.hid (day_len hw hz)
    have bd := bgv_bd (dn y m d) y m (by omega) (by omega)
    have bd2 := bgv_bd (dn y m d + 1) z k (by omega) (by omega)
    have Hw := Lib.hid hw
    obtain ⟨a1, a2, a3, a4, a5, a6⟩ := hw
    have a6 : d ≤ 31 := by have := mo_len y m a3 a4; omega
    have HI := Lib.hid hI
    have Hz := Lib.hid hz
    clear hI hz
    go_enter Tryd.func11, Tryd.ntmps11
    go_wp2_with (first | (go_at_call 29; refine (whole_any _ _ _ _ _ _ _ _).mono ?_; rintro e w1 ⟨rfl, hb⟩; obtain ⟨hc, hf⟩ := bcell hb) | (go_at_call 19; refine (days_any _ _ _ _ (by omega) (by omega) (by omega) (by omega) (by omega) (by omega)).mono ?_; rintro e w' ⟨rfl, rfl⟩))
    all_goals have hB1 := below_then ((Below.refl w.heap.size w).alloc (Nat.le_refl _) _) hb
    all_goals first | (go_ret2; exact ⟨0, 2, rfl, Or.inr ⟨fun ⟨_, k1, k2, k3, k4, k5, k6, k7, k8⟩ => by omega, rfl, rfl⟩, hB1⟩) | skip
    refine (begin_any _ y m _ HI.out (by omega) (by omega)).mono ?_
    rintro e w2 ⟨rfl, hb2⟩
    obtain ⟨hc2, hf2⟩ := bcell hb2
    have hz1 : w.heap.size < w1.heap.size := by have := hb.size; simp at this; omega
    have c5 : w2.cell? ⟨w.heap.size, 5, none⟩ = some (.int .i64 s) := by
      rw [hc2 _ _ hz1, hc _ _ (by simp), World.cell?_alloc_at _ _ _ _ rfl]; rfl
    have hB2 := below_then hB1 hb2
    go_wp2_with (go_at_call 21; refine (begin_any _ z k _ Hz.out (by omega) (by omega)).mono ?_; rintro e w3 ⟨rfl, hb3⟩)
    all_goals
      by_cases hs : s = 60
      · subst hs
        go_ret2
        by_cases hp : (3600 * h + 60 * i + 60) * 1000000 + u < 86400000000 ∨ bgv (dn y m d + 1) z k ≤ bgv (dn y m d) y m + ((3600 * h + 60 * i + 60) * 1000000 + u)
        · first
            | exact ⟨0, 2, rfl, Or.inr ⟨from_60_no Hl.out rfl hp, rfl, rfl⟩, hB2⟩
            | exact ⟨0, 2, rfl, Or.inr ⟨from_60_no Hl.out rfl hp, rfl, rfl⟩, below_then hB2 hb3⟩
            | (exfalso; omega)
        · first
            | (exfalso; omega)
            | exact ⟨_, 0, rfl, Or.inl ⟨from_60 Hw.out (by omega) (by omega) (by omega) (by omega) (by omega) (by omega) (by omega) Hl.out rfl (by omega) (by omega), rfl, rfl⟩, below_then hB2 hb3⟩
      · first
          | (exfalso; omega)
          | (go_ret2; exact ⟨_, 0, rfl, Or.inl ⟨⟨Hw.out, by omega, by omega, by omega, by omega, by omega, by omega, by omega, Or.inl (by omega)⟩, rfl, rfl⟩, hB2⟩)
  · have hB := (wholeB_no hw).symm
    go_enter Tryd.func11, Tryd.ntmps11
    go_wp2_with (first | (go_at_call 29; refine (whole_any _ _ _ _ _ _ _ _).mono ?_; rintro e w1 ⟨rfl, hb⟩))
    go_ret2
    exact ⟨0, 2, rfl, Or.inr ⟨fun hok => hw hok.1, rfl, rfl⟩, below_then ((Below.refl _ _).alloc (Nat.le_refl _) _) hb⟩
end Mw
end Go.Proofs.YtmgehfakcnmdnaaDoor
