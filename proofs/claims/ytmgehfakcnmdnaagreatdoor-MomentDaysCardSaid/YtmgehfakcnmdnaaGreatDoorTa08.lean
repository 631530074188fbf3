/-
  Lemmas and walks, texts joined: MTDAny, MTexts.
-/
import Derived.Test.YtmgehfakcnmdnaaGreatDoorTa07
import Derived.Test.YtmgehfakcnmdnaaGreatDoorTa06
import Derived.Test.YtmgehfakcnmdnaaGreatDoorRows
set_option linter.unusedSimpArgs false
set_option linter.unusedVariables false
/-
  Text and Day of both, for any time and number of digits.
-/
namespace Go.Proofs.YtmgehfakcnmdnaaGreatDoor
namespace At
open Go.RowKit Lw Ap Go.Proofs.YtmgehfakcnmdnaaGreatDoor.Mp Go.Proofs.YtmgehfakcnmdnaaGreatDoor.Mw

theorem text_any (t d : Int) (w : World) (hT : Tab w) (h0 : -9223372036854775808 ≤ t) (h1 : t ≤ 9223372036854775807) :
    Calls Tryz.prog 9 #[.int .i64 t, .int .i64 d] w (TextPost t d w) := by
  by_cases hd : d < 0 ∨ 6 < d
  · exact text_bad t d w hd
  · obtain ⟨k, rfl⟩ := Int.eq_ofNat_of_zero_le (show 0 ≤ d by omega)
    by_cases ht : t < bgv (-10227) 1972 1 ∨ bgv 36525 2100 1 ≤ t
    · exact text_out t k w (by omega) h0 h1 ht
    · obtain ⟨n, y, m, z, j, h⟩ := day_ex t (by omega) (by omega)
      exact text_in t n y m z j k w (by omega) hT h (by omega) (by omega)
theorem rtext_any (t d : Int) (w : World) (h0 : -9223372036854775808 ≤ t) (h1 : t ≤ 9223372036854775807) :
    Calls Tryz.prog 10 #[.int .i64 t, .int .i64 d] w (TextPost t d w) := by
  by_cases hd : d < 0 ∨ 6 < d
  · exact rtext_bad t d w hd
  · obtain ⟨k, rfl⟩ := Int.eq_ofNat_of_zero_le (show 0 ≤ d by omega)
    by_cases ht : t < bgv (-10227) 1972 1 ∨ bgv 36525 2100 1 ≤ t
    · exact rtext_out t k w (by omega) h0 h1 ht
    · obtain ⟨n, y, m, z, j, h⟩ := day_ex t (by omega) (by omega)
      exact rtext_in t n y m z j k w (by omega) h (by omega) (by omega)
theorem sday_any (t d : Int) (w : World) (hT : Tab w) (h0 : -9223372036854775808 ≤ t) (h1 : t ≤ 9223372036854775807) :
    Calls Tryz.prog 11 #[.int .i64 t, .int .i64 d] w (DayPost t d w) := by
  by_cases hd : d < 0 ∨ 9 < d
  · exact sday_bad t d w hd
  · obtain ⟨k, rfl⟩ := Int.eq_ofNat_of_zero_le (show 0 ≤ d by omega)
    by_cases ht : t < bgv (-10227) 1972 1 ∨ bgv 36525 2100 1 ≤ t
    · exact sday_out t k w (by omega) h0 h1 ht
    · obtain ⟨n, y, m, z, j, h⟩ := day_ex t (by omega) (by omega)
      exact sday_in t n y m z j k w (by omega) hT h (by omega) (by omega)
theorem rsday_any (t d : Int) (w : World) (h0 : -9223372036854775808 ≤ t) (h1 : t ≤ 9223372036854775807) :
    Calls Tryz.prog 12 #[.int .i64 t, .int .i64 d] w (DayPost t d w) := by
  by_cases hd : d < 0 ∨ 9 < d
  · exact rsday_bad t d w hd
  · obtain ⟨k, rfl⟩ := Int.eq_ofNat_of_zero_le (show 0 ≤ d by omega)
    by_cases ht : t < bgv (-10227) 1972 1 ∨ bgv 36525 2100 1 ≤ t
    · exact rsday_out t k w (by omega) h0 h1 ht
    · obtain ⟨n, y, m, z, j, h⟩ := day_ex t (by omega) (by omega)
      exact rsday_in t n y m z j k w (by omega) h (by omega) (by omega)
end At
end Go.Proofs.YtmgehfakcnmdnaaGreatDoor
/-
  The walk of MomentTexts: the program and the reference give the same texts and Julian dates, for any time and number of digits.
-/
namespace Go.Proofs.YtmgehfakcnmdnaaGreatDoor
namespace Wd
open Go.RowKit Lw

def jdC (t : Int) : Int := if -5000000000000000 ≤ t ∧ t ≤ 5000000000000000 then 0 else 16
def jdP (t : Int) : Nat := if -5000000000000000 ≤ t ∧ t ≤ 5000000000000000 then jdN t / Nat.gcd (jdN t) 86400000000 else 0
def jdQ (t : Int) : Nat := if -5000000000000000 ≤ t ∧ t ≤ 5000000000000000 then 86400000000 / Nat.gcd (jdN t) 86400000000 else 0
theorem FracV.zero (w : World) : FracV 0 w (.agg #[.bool false, .slice none 0 0, .bool false, .slice none 0 0]) 0 0 :=
  ⟨none, 0, 0, none, 0, 0, rfl, by rw [canon_zero]; exact Lim.nil w, by rw [canon_zero]; exact Lim.nil w, fun _ _ _ => Nat.zero_le _, fun _ _ _ => Nat.zero_le _⟩
theorem FracV.z {B : Nat} {w : World} {V : Value} {p q : Nat} (h : FracV B w V p q) : FracZ B w V (p : Int) q := by
  obtain ⟨a, k, c, a', k', c', rfl, h1, h2, h3, h4⟩ := h
  exact ⟨a, k, c, a', k', c', by rw [decide_eq_false (show ¬ (p : Int) < 0 by omega)], by rw [Int.natAbs_natCast]; exact h1, h2, h3, h4⟩
/-- A Julian date, or the error, as a value. -/
def JdOut (t : Int) (w : World) (e : Ending) (w' : World) : Prop := ∃ a k c a' k' c', e = .returned (.tuple #[.agg #[.bool false, .slice a k c, .bool false, .slice a' k' c'], .int .i64 (jdC t)]) ∧ Lim w' a k c (canon (jdP t)) ∧ Lim w' a' k' c' (canon (jdQ t)) ∧ Below w.heap.size w w'
theorem JdPost.frac {w w' : World} {t : Int} {e : Ending} (h : JdPost w t e w') : JdOut t w e w' := by
  obtain ⟨hb, ⟨hn, rfl⟩ | ⟨hi, V, rfl, hV⟩⟩ := h
  · exact ⟨none, 0, 0, none, 0, 0, by rw [jdC, if_neg hn], by rw [jdP, if_neg hn, canon_zero]; exact Lim.nil _, by rw [jdQ, if_neg hn, canon_zero]; exact Lim.nil _, hb⟩
  · obtain ⟨a, k, c, a', k', c', rfl, h1, h2, -, -⟩ := hV
    exact ⟨a, k, c, a', k', c', by rw [jdC, if_pos hi], by rw [jdP, if_pos hi]; exact h1, by rw [jdQ, if_pos hi]; exact h2, hb⟩
theorem jd_any (t : Int) (w : World) (h0 : -9223372036854775808 ≤ t) (h1 : t < 9223372036854775808) : Calls Tryz.prog 13 #[.int .i64 t] w (JdOut t w) :=
  (jd_walk t w h0 h1).mono fun _ _ h => h.frac
theorem rjd_any (t : Int) (w : World) (h0 : -9223372036854775808 ≤ t) (h1 : t < 9223372036854775808) : Calls Tryz.prog 14 #[.int .i64 t] w (JdOut t w) :=
  (rjd_walk t w h0 h1).mono fun _ _ h => h.frac
theorem laidMet_tail {P : Program} {W : World} {x : String × DataW Unit} {rest : List (String × DataW Unit)} (h : laidMet P (x :: rest) W) : laidMet P rest W := by
  obtain ⟨n, d⟩ := x
  obtain ⟨ps, ⟨g', t', cs, fuel, p, q, hg', ht', hvar, hd, hr, hp⟩, hn, ha⟩ := h
  subst hp
  exact ⟨q, hr, (List.nodup_append.1 hn).2.1, fun b off hm => ha b off (List.mem_append_right _ hm)⟩
theorem tab_texts {W : World} (hL : laidMet Tryz.prog Rows.momentTextsRow.laid W) : At.Tab W :=
  Lib.tabIs_of_head (rest := []) (t := 180) (e := 65) (n := 20) At.gPow (by kernel_rfl) (by kernel_rfl) (by kernel_rfl) (by kernel_rfl) (by kernel_rfl) (laidMet_tail (laidMet_tail hL))
set_option maxRecDepth 100000 in
set_option maxHeartbeats 4000000 in
theorem law_texts (t d : Int) (w : World) (hT : At.Tab w) (h0 : -9223372036854775808 ≤ t) (h1 : t ≤ 9223372036854775807) :
    Calls Tryz.prog 3 #[.int .i64 t, .int .i64 d] w fun e w' => e = .returned (.bool true) ∧ Below w.heap.size w w' := by
  have C1 := Lib.hid (fun w' (h : At.Tab w') => At.text_any t d w' h h0 h1)
  have C2 := Lib.hid (fun w' => At.rtext_any t d w' h0 h1)
  have C3 := Lib.hid (fun w' (h : At.Tab w') => At.sday_any t d w' h h0 h1)
  have C4 := Lib.hid (fun w' => At.rsday_any t d w' h0 h1)
  have C5 := Lib.hid (fun w' => jd_any t w' h0 (by omega))
  have C6 := Lib.hid (fun w' => rjd_any t w' h0 (by omega))
  have HT := Lib.hid hT
  clear hT
  go_enter Tryz.func3, Tryz.ntmps3
  go_wp2_with fail
  refine (C1.out _ HT.out).mono ?_
  rintro e w1 ⟨t1, c1, rfl, g1, hb1⟩
  go_wp2_with fail
  refine (C2.out _).mono ?_
  rintro e w2 ⟨t2, c2, rfl, g2, hb2⟩
  obtain ⟨rfl, rfl⟩ := g1.uniq g2
  have B2 := Lib.hid (below_then hb1 hb2)
  clear g1 g2 hb1 hb2
  go_wp2_with fail
  refine (C3.out _ (HT.out.below B2.out)).mono ?_
  rintro e w3 ⟨t3, c3, rfl, g3, hb3⟩
  go_wp2_with fail
  refine (C4.out _).mono ?_
  rintro e w4 ⟨t4, c4, rfl, g4, hb4⟩
  obtain ⟨rfl, rfl⟩ := g3.uniq g4
  have B4 := Lib.hid (below_then (below_then B2.out hb3) hb4)
  clear g3 g4 hb3 hb4 C1 C2 C3 C4 HT
  go_wp2_with fail
  refine (C5.out _).mono ?_
  rintro e w5 ⟨a, k, c, a', k', c', rfl, l1, l2, hb5⟩
  have bA := (Below.refl w5.heap.size w5).alloc (Nat.le_refl _) (.cells #[.bool false, .slice a k c, .bool false, .slice a' k' c'] 31)
  have rr := rangeAt_new w5 [.bool false, .slice a k c, .bool false, .slice a' k' c'] 31
  have RR := Lib.hid rr
  have L1 := Lib.hid (l1.below bA)
  have L2 := Lib.hid (l2.below bA)
  have B5 := Lib.hid (below_then (below_then B4.out hb5) bA)
  clear bA rr l1 l2 hb5 B4
  go_wp2_with fail
  refine (C6.out _).mono ?_
  rintro e w6 ⟨d1, n1, e1, d2, n2, e2, rfl, m1, m2, hb6⟩
  have bA := (Below.refl w6.heap.size w6).alloc (Nat.le_refl _) (.cells #[.bool false, .slice d1 n1 e1, .bool false, .slice d2 n2 e2] 31)
  have r6 := rangeAt_below RR.out hb6 (by simp)
  have r7 := rangeAt_below r6 bA (by have := hb6.size; simp at this; omega)
  have s6 := rangeAt_new w6 [.bool false, .slice d1 n1 e1, .bool false, .slice d2 n2 e2] 31
  have sz := hb6.size
  simp only [World.size_alloc] at sz
  have b56 := below_then hb6 bA
  have F1 : FracZ 0 (w6.alloc (.cells #[.bool false, .slice d1 n1 e1, .bool false, .slice d2 n2 e2] 31)) (.agg #[.bool false, .slice a k c, .bool false, .slice a' k' c']) (jdP t : Int) (jdQ t) :=
    FracV.z ⟨a, k, c, a', k', c', rfl, L1.out.below b56, L2.out.below b56, fun _ _ _ => Nat.zero_le _, fun _ _ _ => Nat.zero_le _⟩
  have F2 : FracZ 0 (w6.alloc (.cells #[.bool false, .slice d1 n1 e1, .bool false, .slice d2 n2 e2] 31)) (.agg #[.bool false, .slice d1 n1 e1, .bool false, .slice d2 n2 e2]) (jdP t : Int) (jdQ t) :=
    FracV.z ⟨d1, n1, e1, d2, n2, e2, rfl, m1.below bA, m2.below bA, fun _ _ _ => Nat.zero_le _, fun _ _ _ => Nat.zero_le _⟩
  have SM := rfsame_walk _ _ _ _ _ _ _ F1 F2
  simp only [and_self, decide_true] at SM
  have SMH := Lib.hid SM
  have B7 := Lib.hid (below_then (below_then B5.out hb6) bA)
  have x0 := r6 0 _ rfl
  have x1 := r6 1 _ rfl
  have x2 := r6 2 _ rfl
  have x3 := r6 3 _ rfl
  have z0 := r7 0 _ rfl
  have z1 := r7 1 _ rfl
  have z2 := r7 2 _ rfl
  have z3 := r7 3 _ rfl
  have y0 := s6 0 _ rfl
  have y1 := s6 1 _ rfl
  have y2 := s6 2 _ rfl
  have y3 := s6 3 _ rfl
  clear bA r6 r7 s6 b56 F1 F2 SM L1 L2 RR B5 m1 m2 hb6
  go_wp2_with fail
  refine SMH.out.mono ?_
  rintro e w7 ⟨rfl, hb7⟩
  have B8 := Lib.hid (below_then B7.out hb7)
  clear hb7 x0 x1 x2 x3 y0 y1 y2 y3 z0 z1 z2 z3 SMH
  go_wp2_with fail
  go_ret
  exact ⟨rfl, B8.out⟩
end Wd
end Go.Proofs.YtmgehfakcnmdnaaGreatDoor
