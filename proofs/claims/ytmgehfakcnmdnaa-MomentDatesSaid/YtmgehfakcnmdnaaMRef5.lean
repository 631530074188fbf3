/-
  The walks of FromUtc and day of the reference.
-/
import Derived.Test.YtmgehfakcnmdnaaMRef4
namespace Go.Proofs.Ytmgehfakcnmdnaa
namespace Mw
open Go.RowKit Mp Lw

/-- What FromUtc does. -/
def RFromPost (y m d h i s u : Int) (w : World) (e : Ending) (w' : World) : Prop := ∃ t c : Int, e = .returned (.tuple #[.int .i64 t, .int .i64 c]) ∧ FromIs y m d h i s u t c ∧ Below w.heap.size w w'

set_option maxHeartbeats 2000000 in
theorem rfrom_any (y m d h i s u : Int) (w : World) :
    Calls Try.prog 7 #[rdateV y m d h i s u] w (RFromPost y m d h i s u w) := by
  by_cases hok : fromOk y m d h i s u
  · have Hok := Lib.hid hok
    obtain ⟨hw, g1, g2, g3, g4, g5, g6, g7, g8⟩ := hok
    have g8 : s ≤ 60 := by rcases g8 with g | ⟨g, _⟩ <;> omega
    have hI := wholeP_ym hw
    obtain ⟨n1, n2⟩ := wholeP_range hw
    have bd := bgv_bd (dn y m d) y m (by omega) (by omega)
    have Fin := Lib.hid (show bgv (dn y m d) y m + (h * 3600 + i * 60 + s) * 1000000 + u = timeOf y m d h i s u by unfold timeOf; omega)
    rw [dn_mo] at bd
    obtain ⟨a1, a2, a3, a4, a5, a6⟩ := hw
    have HI := Lib.hid hI
    clear hI
    go_enter Try.func7, Try.ntmps7
    go_wp2_with fail
    refine (valid_any _ _ _ _ _ _ _ _).mono ?_
    rintro e w1 ⟨b, rfl, hb, hB⟩
    obtain rfl : b = true := hb.2 Hok.out
    clear hb
    obtain ⟨hc, hf⟩ := bcell hB
    have k0 : w1.cell? ⟨w.heap.size, 0, none⟩ = some (.int .i64 y) := by rw [hc _ _ (by simp), World.cell?_alloc_at _ _ _ _ rfl]; rfl
    have k1 : w1.cell? ⟨w.heap.size, 1, none⟩ = some (.int .i64 m) := by rw [hc _ _ (by simp), World.cell?_alloc_at _ _ _ _ rfl]; rfl
    have k2 : w1.cell? ⟨w.heap.size, 2, none⟩ = some (.int .i64 d) := by rw [hc _ _ (by simp), World.cell?_alloc_at _ _ _ _ rfl]; rfl
    have k3 : w1.cell? ⟨w.heap.size, 3, none⟩ = some (.int .i64 h) := by rw [hc _ _ (by simp), World.cell?_alloc_at _ _ _ _ rfl]; rfl
    have k4 : w1.cell? ⟨w.heap.size, 4, none⟩ = some (.int .i64 i) := by rw [hc _ _ (by simp), World.cell?_alloc_at _ _ _ _ rfl]; rfl
    have k5 : w1.cell? ⟨w.heap.size, 5, none⟩ = some (.int .i64 s) := by rw [hc _ _ (by simp), World.cell?_alloc_at _ _ _ _ rfl]; rfl
    have k6 : w1.cell? ⟨w.heap.size, 6, none⟩ = some (.int .i64 u) := by rw [hc _ _ (by simp), World.cell?_alloc_at _ _ _ _ rfl]; rfl
    have hB1 := below_then ((Below.refl w.heap.size w).alloc (Nat.le_refl _) _) hB
    have hz : w.heap.size < w1.heap.size := by have := hB.size; simp at this; omega
    clear hc hf hB
    go_wp2_with fail
    go_region_held3 (fun w' => w'.cell? ⟨w.heap.size, 0, none⟩ = some (.int .i64 y) ∧ w'.cell? ⟨w.heap.size, 1, none⟩ = some (.int .i64 m) ∧ w'.cell? ⟨w.heap.size, 2, none⟩ = some (.int .i64 d) ∧ w'.cell? ⟨w.heap.size, 6, none⟩ = some (.int .i64 u)) (go_keep) (first | (go_at_call 16; refine (begins_in _ _ _ _ (by omega) (by omega) (by omega) (by omega) (by omega) (by omega)).mono ?_; rintro e w2 ⟨rfl, hb2⟩; have q0 := (hb2.cell (p := ⟨w.heap.size, 0, none⟩) hz).trans k0; have q1 := (hb2.cell (p := ⟨w.heap.size, 1, none⟩) hz).trans k1; have q2 := (hb2.cell (p := ⟨w.heap.size, 2, none⟩) hz).trans k2; have q6 := (hb2.cell (p := ⟨w.heap.size, 6, none⟩) hz).trans k6))
    go_wp2
    go_ret2
    exact ⟨_, 0, rfl, Or.inl ⟨Hok.out, by rw [← Fin.out, dn_mo, IntWalk.i64_in ((h * 3600 + i * 60 + s) * 1000000) (by omega), IntWalk.i64_in (bgv (mo y m + d - 1) y m + (h * 3600 + i * 60 + s) * 1000000) (by omega), IntWalk.i64_in _ (by omega)], rfl⟩, below_then hB1.drew hb2⟩
  · go_enter Try.func7, Try.ntmps7
    go_wp2_with fail
    refine (valid_any _ _ _ _ _ _ _ _).mono ?_
    rintro e w1 ⟨b, rfl, hb, hB⟩
    obtain rfl : b = false := by cases b with
      | false => rfl
      | true => exact absurd (hb.1 rfl) hok
    clear hb
    go_wp2_with fail
    go_ret2
    exact ⟨0, 2, rfl, Or.inr ⟨hok, rfl, rfl⟩, below_then ((Below.refl _ _).alloc (Nat.le_refl _) _) hB⟩

theorem rinfo7 : (Try.prog.info? 23).map (·.size) = some 7 := by kernel_rfl
abbrev rdateC (y m d h i s u : Int) : List Value := [.int .i64 y, .int .i64 m, .int .i64 d, .int .i64 h, .int .i64 i, .int .i64 s, .int .i64 u]

theorem b72 : bgv (mo 1972 1 + 1 - 1) 1972 1 = bgv (-10227) 1972 1 := by rw [mo_1972]; rfl
theorem mo_2100 : mo 2100 1 = 36525 := by decide
theorem b00 : bgv (mo 2100 1 + 1 - 1) 2100 1 = bgv 36525 2100 1 := by rw [mo_2100]; rfl
set_option maxHeartbeats 1000000 in
theorem rday_out (t : Int) (w : World) (h0 : -9223372036854775808 ≤ t) (h1 : t ≤ 9223372036854775807) (h : t < bgv (-10227) 1972 1 ∨ bgv 36525 2100 1 ≤ t) :
    Calls Try.prog 19 #[.int .i64 t] w fun e w' => e = .returned (.tuple #[rdateV 0 0 0 0 0 0 0, .int .i64 0, .bool false]) ∧ Below w.heap.size w w' := by
  have H := Lib.hid h
  clear h
  go_enter Try.func19, Try.ntmps19
  go_wp2_with fail
  refine (begins_in 1972 1 1 _ (by omega) (by omega) (by omega) (by omega) (by omega) (by have := mo_len 1972 1 (by omega) (by omega); omega)).mono ?_
  rintro e w1 ⟨rfl, hb⟩
  rw [b72]
  have th := there_below (there_new w _ _ 7 (by simp)) hb (by simp)
  have hB := below_then ((Below.refl w.heap.size w).alloc (Nat.le_refl _) _) hb
  have hz : w.heap.size < w1.heap.size := by have := hb.size; simp at this; omega
  clear hb
  by_cases hc : t < bgv (-10227) 1972 1
  · go_wp2_with (refine wpList_store_mid rfl _ (.tmp 2) (.tmp 16) rfl w.heap.size 0 _ rfl rfl ?_ rinfo7 ?_ ?_; exact th; simp [Value.oneCell'])
    exact bodyPost_ret (ret_cell_tmp2 Try.results19 _ _ w.heap.size (rdateC 0 0 0 0 0 0 0) _ rfl (World.rangeAt_setCells_same _ _ _ _ th) Try.underlying23 rfl rinfo7) rfl ⟨rfl, below_setCells _ (Nat.le_refl _) _ _ _ hB⟩
  · have hd : bgv 36525 2100 1 ≤ t := by rcases H.out with h | h <;> omega
    go_wp2_with fail
    refine (begins_in 2100 1 1 _ (by omega) (by omega) (by omega) (by omega) (by omega) (by have := mo_len 2100 1 (by omega) (by omega); omega)).mono ?_
    rintro e w2 ⟨rfl, hb2⟩
    rw [b00]
    have th2 := there_below th hb2 hz
    have hB2 := below_then hB hb2
    clear hb2
    go_wp2_with (refine wpList_store_mid rfl _ (.tmp 2) (.tmp 16) rfl w.heap.size 0 _ rfl rfl ?_ rinfo7 ?_ ?_; exact th2; simp [Value.oneCell'])
    exact bodyPost_ret (ret_cell_tmp2 Try.results19 _ _ w.heap.size (rdateC 0 0 0 0 0 0 0) _ rfl (World.rangeAt_setCells_same _ _ _ _ th2) Try.underlying23 rfl rinfo7) rfl ⟨rfl, below_setCells _ (Nat.le_refl _) _ _ _ hB2⟩

set_option maxHeartbeats 2000000 in
theorem rday_in (t n y m z k : Int) (w : World) (h : DayOf t n y m z k) (h1 : bgv (-10227) 1972 1 ≤ t) (h2 : t < bgv 36525 2100 1) :
    Calls Try.prog 19 #[.int .i64 t] w fun e w' => e = .returned (.tuple #[rdateV y m (n - mo y m + 1) 0 0 0 0, .int .i64 (t - bgv n y m), .bool true]) ∧ Below w.heap.size w w' := by
  have y1 := h.y1
  have y2 := h.y2
  have M1 := h.ym.m1
  have M2 := h.ym.m12
  have n1 := h.n1
  have n2 := h.n2
  obtain ⟨p1, p2⟩ := h.pass
  have bq := bgv_bd n y m (by omega) (by omega)
  obtain ⟨ml1, ml2⟩ := mo_len y m M1 M2
  have lo := h.ym.lo
  have hi := h.ym.hi
  have H := Lib.hid h
  have H1 := Lib.hid h1
  have H2 := Lib.hid h2
  clear h h1 h2
  go_enter Try.func19, Try.ntmps19
  go_wp2_with fail
  refine (begins_in 1972 1 1 _ (by omega) (by omega) (by omega) (by omega) (by omega) (by have := mo_len 1972 1 (by omega) (by omega); omega)).mono ?_
  rintro e w1 ⟨rfl, hb⟩
  rw [b72]
  have th := there_below (there_new w _ _ 7 (by simp)) hb (by simp)
  have hB := below_then ((Below.refl w.heap.size w).alloc (Nat.le_refl _) _) hb
  have hz : w.heap.size < w1.heap.size := by have := hb.size; simp at this; omega
  clear hb
  have h1 := H1.out
  go_wp2_with fail
  refine (begins_in 2100 1 1 _ (by omega) (by omega) (by omega) (by omega) (by omega) (by have := mo_len 2100 1 (by omega) (by omega); omega)).mono ?_
  rintro e w2 ⟨rfl, hb2⟩
  rw [b00]
  have th2 := there_below th hb2 hz
  have hB2 := below_then hB hb2
  have hz2 : w.heap.size < w2.heap.size := by have := hb2.size; omega
  have h2 := H2.out
  clear hb2 hB th
  go_wp2_with fail
  clear h1 h2
  go_loopw [5] (fun v wr => ∃ q : Int, y ≤ q ∧ q ≤ 2099 ∧ v = .int .i64 q ∧ Below w.heap.size w wr ∧ wr.there w.heap.size 0 7 ∧ w.heap.size < wr.heap.size) (fun v _ => (intOf v - y).toNat)
  case atStart => exact ⟨2099, by omega, by omega, rfl, hB2, th2, hz2⟩
  case round =>
    clear hB2 th2 hz2 hz
    obtain ⟨q, q1, q2, rfl, hB, th, hz⟩ := hrel
    by_cases hq : q = y
    · subst hq
      have e1 : ¬ t < bgv (mo q 1) q 1 := by
        have := bgv_mono H.out.ym (ym_first q 1 (by omega) (by omega)) (by have := mo_le q 1 m (by omega) M1; omega)
        have := H.out.lo; omega
      go_wp2_with (go_at_call 16; refine (begins_in _ 1 1 _ (by omega) (by omega) (by omega) (by omega) (by omega) (by have := mo_len q 1 (by omega) (by omega); omega)).mono ?_; rintro e w3 ⟨rfl, hb3⟩)
      have hB3 := below_then hB hb3
      have th3 := there_below th hb3 hz
      have hz3 : w.heap.size < w3.heap.size := by have := hb3.size; omega
      clear hB th hz hb3 e1
      go_loopw [6] (fun v wr => ∃ j : Int, m ≤ j ∧ j ≤ 12 ∧ v = .int .i64 j ∧ Below w.heap.size w wr ∧ wr.there w.heap.size 0 7 ∧ w.heap.size < wr.heap.size) (fun v _ => (intOf v - m).toNat)
      case atStart => exact ⟨12, by omega, by omega, rfl, hB3, th3, hz3⟩
      case round =>
        clear hB3 th3 hz3
        obtain ⟨j, j1, j2, rfl, hB, th, hz⟩ := hrel
        by_cases hj : j = m
        · subst hj
          have e1 : ¬ t < bgv (mo q j) q j := by
            have := bgv_mono H.out.ym (ym_first q j (by omega) (by omega)) (by omega)
            have := H.out.lo; omega
          go_wp2_with (first | (go_at_call 16; refine (begins_in _ _ 1 _ (by omega) (by omega) (by omega) (by omega) (by omega) (by omega)).mono ?_; rintro e w4 ⟨rfl, hb4⟩) | (go_at_call 21; refine (length_any _ _ _ (by omega) (by omega) (by omega)).mono ?_; rintro e w5 ⟨rfl, hb5⟩))
          have hB5 := below_then (below_then hB hb4) hb5
          have th5 := there_below (there_below th hb4 hz) hb5 (by have := hb4.size; omega)
          have hz5 : w.heap.size < w5.heap.size := by have := hb4.size; have := hb5.size; omega
          clear hB th hz hb4 hb5 e1
          go_loopw [7] (fun v wr => ∃ d : Int, n - mo q j + 1 ≤ d ∧ d ≤ mo q (j + 1) - mo q j ∧ v = .int .i64 d ∧ Below w.heap.size w wr ∧ wr.there w.heap.size 0 7 ∧ w.heap.size < wr.heap.size) (fun v _ => (intOf v - (n - mo q j + 1)).toNat)
          case atStart => exact ⟨_, by omega, by omega, rfl, hB5, th5, hz5⟩
          case round =>
            clear hB5 th5 hz5
            obtain ⟨d, d1, d2, rfl, hB, th, hz⟩ := hrel
            by_cases hd : d = n - mo q j + 1
            · have en : mo q j + d - 1 = n := by omega
              have Hd := Lib.hid hd
              have e1 : ¬ t < bgv n q j := by have := H.out.lo; omega
              clear hd
              go_wp2_with fail
              refine (begins_in _ _ _ _ (by omega) (by omega) (by omega) (by omega) (by omega) (by omega)).mono ?_
              rintro e w6 ⟨rfl, hb6⟩
              rw [en]
              have hB6 := below_then hB hb6
              have th6 := there_below th hb6 hz
              have hz6 : w.heap.size < w6.heap.size := by have := hb6.size; omega
              have En := Lib.hid en
              clear hB th hz hb6 en
              go_wp2_with fail
              refine (begins_in _ _ _ _ (by omega) (by omega) (by omega) (by omega) (by omega) (by omega)).mono ?_
              rintro e w7 ⟨rfl, hb7⟩
              rw [En.out]
              have hB7 := below_then hB6 hb7
              have th7 := there_below th6 hb7 hz6
              clear hB6 th6 hz6 hb7
              go_wp2_with (refine wpList_store_mid rfl _ (.tmp 2) (.tmp 44) rfl w.heap.size 0 _ rfl rfl ?_ rinfo7 ?_ ?_; exact th7; simp [Value.oneCell'])
              exact bodyPost_ret (ret_cell_tmp2 Try.results19 _ _ w.heap.size (rdateC q j d 0 0 0 0) _ rfl (World.rangeAt_setCells_same _ _ _ _ th7) Try.underlying23 rfl rinfo7) rfl ⟨by rw [← Hd.out]; rfl, below_setCells _ (Nat.le_refl _) _ _ _ hB7⟩
            · have e1 : t < bgv (mo q j + d - 1) q j := H.out.gt ⟨M1, M2, by omega, by omega⟩ (by omega)
              go_wp2_with (go_at_call 16; refine (begins_in _ _ _ _ (by omega) (by omega) (by omega) (by omega) (by omega) (by omega)).mono ?_; rintro e w6 ⟨rfl, hb6⟩)
              go_roundw
              case rel => exact ⟨d - 1, by omega, by omega, rfl, below_then hB hb6, there_below th hb6 hz, by have := hb6.size; omega⟩
              case measure => simp [intOf]; omega
        · have e1 : t < bgv (mo q j) q j := by
            exact H.out.gt (ym_first q j (by omega) (by omega)) (by have := mo_le q (m + 1) j (by omega) (by omega); omega)
          go_wp2_with (go_at_call 16; refine (begins_in _ _ 1 _ (by omega) (by omega) (by omega) (by omega) (by omega) (by have := mo_len q j (by omega) (by omega); omega)).mono ?_; rintro e w4 ⟨rfl, hb4⟩)
          go_roundw
          case rel => exact ⟨j - 1, by omega, by omega, rfl, below_then hB hb4, there_below th hb4 hz, by have := hb4.size; omega⟩
          case measure => simp [intOf]; omega
    · have e1 : t < bgv (mo q 1) q 1 := by
        exact H.out.gt (ym_first q 1 (by omega) (by omega)) (by have := mo_year_le (y + 1) q (by omega); have := H.out.ym.yhi; omega)
      go_wp2_with (go_at_call 16; refine (begins_in _ 1 1 _ (by omega) (by omega) (by omega) (by omega) (by omega) (by have := mo_len q 1 (by omega) (by omega); omega)).mono ?_; rintro e w3 ⟨rfl, hb3⟩)
      go_roundw
      case rel => exact ⟨q - 1, by omega, by omega, rfl, below_then hB hb3, there_below th hb3 hz, by have := hb3.size; omega⟩
      case measure => simp [intOf]; omega
end Mw
end Go.Proofs.Ytmgehfakcnmdnaa
