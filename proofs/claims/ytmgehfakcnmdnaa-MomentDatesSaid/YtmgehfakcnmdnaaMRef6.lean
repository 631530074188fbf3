/-
  The walk of ToUtc of the reference, and of Leap of both.
-/
import Derived.Test.YtmgehfakcnmdnaaMRef5
namespace Go.Proofs.Ytmgehfakcnmdnaa
namespace Mw
open Go.RowKit Mp Lw

set_option maxHeartbeats 1000000 in
theorem rtoutc_out (t : Int) (w : World) (h0 : -9223372036854775808 ≤ t) (h1 : t ≤ 9223372036854775807) (h : t < bgv (-10227) 1972 1 ∨ bgv 36525 2100 1 ≤ t) :
    Calls Try.prog 9 #[.int .i64 t] w fun e w' => e = .returned (.tuple #[rdateV 0 0 0 0 0 0 0, .int .i64 16]) ∧ Below w.heap.size w w' := by
  have H := Lib.hid h
  clear h
  go_enter Try.func9, Try.ntmps9
  go_wp2_with fail
  refine (rday_out t _ h0 h1 H.out).mono ?_
  rintro e w1 ⟨rfl, hb⟩
  have th := there_below (there_new w _ _ 7 (by simp)) hb (by simp)
  have hB := below_then ((Below.refl w.heap.size w).alloc (Nat.le_refl _) _) hb
  have hz := hB.size
  clear hb
  go_wp2_with (first | (refine wpList_store_mid rfl _ (.tmp 2) (.tmp 16) rfl w.heap.size 0 _ rfl rfl ?_ rinfo7 ?_ ?_; exact World.there_alloc th _; simp [Value.oneCell']) | (refine wpList_store_new rfl _ (.tmp 4) (.tmp 11) rfl _ _ rfl rfl rinfo7 rfl ?_ ?_; simp [Value.oneCell']))
  exact bodyPost_ret (ret_cell_tmp Try.results9 _ _ w.heap.size (rdateC 0 0 0 0 0 0 0) _ rfl (World.rangeAt_setCells_same _ _ _ _ (World.there_alloc th _)) Try.underlying23 rfl rinfo7) rfl ⟨rfl, below_setCells _ (Nat.le_refl _) _ _ _ (hB.alloc hz _)⟩

theorem hms_1 (p : Int) (h0 : 0 ≤ p) (h : p < 86401000000) (c : 86400 ≤ p / 1000000) : mins p / 60 = 23 ∧ mins p % 60 = 59 ∧ p / 1000000 - 60 * mins p = 60 := by
  unfold mins; rw [if_neg (by omega)]; omega
theorem hms_2 (p : Int) (h0 : 0 ≤ p) (c : ¬ 86400 ≤ p / 1000000) : mins p / 60 = p / 1000000 / 3600 ∧ mins p % 60 = p / 1000000 / 60 % 60 ∧ p / 1000000 - 60 * mins p = p / 1000000 % 60 := by
  unfold mins; rw [if_pos (by omega)]; omega

set_option maxHeartbeats 1000000 in
theorem rtoutc_in (t n y m z k : Int) (w : World) (h : DayOf t n y m z k) (h1 : bgv (-10227) 1972 1 ≤ t) (h2 : t < bgv 36525 2100 1) :
    Calls Try.prog 9 #[.int .i64 t] w fun e w' => e = .returned (.tuple #[rdateV y m (n - mo y m + 1) (mins (t - bgv n y m) / 60) (mins (t - bgv n y m) % 60) ((t - bgv n y m) / 1000000 - 60 * mins (t - bgv n y m)) ((t - bgv n y m) % 1000000), .int .i64 0]) ∧ Below w.heap.size w w' := by
  obtain ⟨p1, p2⟩ := h.pass
  have H := Lib.hid h
  have H1 := Lib.hid h1
  have H2 := Lib.hid h2
  clear h h1 h2
  generalize hp : t - bgv n y m = p at *
  have Hp := Lib.hid hp
  clear hp
  by_cases hc : 86400 ≤ p / 1000000
  · have G := Lib.hid (hms_1 p p1 p2 hc)
    go_enter Try.func9, Try.ntmps9
    go_wp2_with fail
    refine (rday_in t n y m z k _ H.out H1.out H2.out).mono ?_
    rintro e w1 ⟨rfl, hb⟩
    rw [Hp.out]
    have th := there_below (there_new w _ _ 7 (by simp)) hb (by simp)
    have hB := below_then ((Below.refl w.heap.size w).alloc (Nat.le_refl _) _) hb
    have hz := hB.size
    clear hb
    go_wp2_with (first | (refine wpList_store_mid rfl _ (.tmp 2) (.tmp 27) rfl w.heap.size 0 _ rfl rfl ?_ rinfo7 ?_ ?_; exact World.there_alloc th _; simp [Value.oneCell']) | (refine wpList_store_new rfl _ (.tmp 4) (.tmp 11) rfl _ _ rfl rfl rinfo7 rfl ?_ ?_; simp [Value.oneCell']))
    refine bodyPost_ret (ret_cell_tmp Try.results9 _ _ w.heap.size (rdateC y m (n - mo y m + 1) 23 59 60 (p % 1000000)) _ rfl (World.rangeAt_setCells_same _ _ _ _ (World.there_alloc th _)) Try.underlying23 rfl rinfo7) rfl ⟨?_, below_setCells _ (Nat.le_refl _) _ _ _ (hB.alloc hz _)⟩
    obtain ⟨g1, g2, g3⟩ := G.out
    rw [g1, g2, g3]
    rfl
  · have G := Lib.hid (hms_2 p p1 hc)
    go_enter Try.func9, Try.ntmps9
    go_wp2_with fail
    refine (rday_in t n y m z k _ H.out H1.out H2.out).mono ?_
    rintro e w1 ⟨rfl, hb⟩
    rw [Hp.out]
    have th := there_below (there_new w _ _ 7 (by simp)) hb (by simp)
    have hB := below_then ((Below.refl w.heap.size w).alloc (Nat.le_refl _) _) hb
    have hz := hB.size
    clear hb
    go_wp2_with (first | (refine wpList_store_mid rfl _ (.tmp 2) (.tmp 38) rfl w.heap.size 0 _ rfl rfl ?_ rinfo7 ?_ ?_; exact World.there_alloc th _; simp [Value.oneCell']) | (refine wpList_store_new rfl _ (.tmp 4) (.tmp 11) rfl _ _ rfl rfl rinfo7 rfl ?_ ?_; simp [Value.oneCell']))
    refine bodyPost_ret (ret_cell_tmp Try.results9 _ _ w.heap.size (rdateC y m (n - mo y m + 1) (p / 1000000 / 3600) (p / 1000000 / 60 % 60) (p / 1000000 % 60) (p % 1000000)) _ rfl (World.rangeAt_setCells_same _ _ _ _ (World.there_alloc th _)) Try.underlying23 rfl rinfo7) rfl ⟨?_, below_setCells _ (Nat.le_refl _) _ _ _ (hB.alloc hz _)⟩
    obtain ⟨g1, g2, g3⟩ := G.out
    rw [g1, g2, g3]
    rfl

/-- What Leap returns: the leap seconds, and the error. -/
def LeapIs (y m t e : Int) : Prop := ((m < 1 ∨ 12 < m) ∧ t = 0 ∧ e = 2) ∨ (1 ≤ m ∧ m ≤ 12 ∧ (y < 1972 ∨ 2099 < y) ∧ t = 0 ∧ e = 16) ∨ (1 ≤ m ∧ m ≤ 12 ∧ 1972 ≤ y ∧ y ≤ 2099 ∧ t = lps (12 * y + m - 1) ∧ e = 0)
theorem LeapIs.uniq {y m t e t' e' : Int} (a : LeapIs y m t e) (b : LeapIs y m t' e') : t = t' ∧ e = e' := by unfold LeapIs at a b; omega
def LeapPost (y m : Int) (w : World) (e : Ending) (w' : World) : Prop := ∃ t c : Int, e = .returned (.tuple #[.int .i64 t, .int .i64 c]) ∧ LeapIs y m t c ∧ Below w.heap.size w w'
def RLeapPost (y m : Int) (w : World) (e : Ending) (w' : World) : Prop := ∃ t c : Int, e = .returned (.tuple #[.int .i64 t, .int .i64 c]) ∧ LeapIs y m t c ∧ Below w.heap.size w w'

set_option maxHeartbeats 1000000 in
theorem Leap_any (y m : Int) (w : World) : Calls Try.prog 4 #[.int .i64 y, .int .i64 m] w (LeapPost y m w) := by
  go_enter Try.func4, Try.ntmps4
  go_wp2_with (go_at_call 10; refine (leap_any _ _).mono ?_; rintro e w1 ⟨rfl, hb⟩)
  all_goals go_ret2
  all_goals first
    | exact ⟨_, _, rfl, Or.inr (Or.inr ⟨by omega, by omega, by omega, by omega, rfl, rfl⟩), hb⟩
    | exact ⟨0, 2, rfl, Or.inl ⟨by omega, rfl, rfl⟩, Below.refl _ _⟩
    | exact ⟨0, 16, rfl, Or.inr (Or.inl ⟨by omega, by omega, by omega, rfl, rfl⟩), Below.refl _ _⟩
set_option maxHeartbeats 1000000 in
theorem rLeap_any (y m : Int) (w : World) : Calls Try.prog 5 #[.int .i64 y, .int .i64 m] w (RLeapPost y m w) := by
  go_enter Try.func5, Try.ntmps5
  go_wp2_with (go_at_call 11; refine (leaps_any _ _ _ (by omega) (by omega)).mono ?_; rintro e w1 ⟨rfl, hb⟩)
  all_goals go_ret2
  all_goals first
    | exact ⟨_, _, rfl, Or.inr (Or.inr ⟨by omega, by omega, by omega, by omega, rfl, rfl⟩), hb⟩
    | exact ⟨0, 2, rfl, Or.inl ⟨by omega, rfl, rfl⟩, Below.refl _ _⟩
    | exact ⟨0, 16, rfl, Or.inr (Or.inl ⟨by omega, by omega, by omega, rfl, rfl⟩), Below.refl _ _⟩
end Mw
end Go.Proofs.Ytmgehfakcnmdnaa
