/-
  The walk of DesigHalves.
-/
import Derived.Test.YtdjndoafnoidbaaDoorDBack
import Derived.Test.YtdjndoafnoidbaaDoorDRef1
namespace Go.Proofs.YtdjndoafnoidbaaDoor
namespace Dw
open Go.RowKit Dp Lw

/-- The half-month letters are letters, and in order. -/
theorem ord_half : ∀ i, i < 24 → halfP (ordAt i) := by decide +kernel
theorem ord_mono : ∀ i, i < 24 → ∀ j, j < 24 → (ordAt i < ordAt j ↔ i < j) := by decide +kernel
theorem halfLet_is (m d m' d' : Int) (h1 : 1 ≤ m) (h2 : m ≤ 12) (h3 : 1 ≤ m') (h4 : m' ≤ 12) :
    halfP (halfLet m d) ∧ (halfLet m d < halfLet m' d' ↔ (m < m' ∨ m = m' ∧ d ≤ 15 ∧ 15 < d')) ∧ (halfLet m' d' < halfLet m d ↔ (m' < m ∨ m = m' ∧ d' ≤ 15 ∧ 15 < d)) := by
  obtain ⟨i, hi⟩ : ∃ i, 2 * m.toNat - 2 + (if 15 < d then 1 else 0) = i := ⟨_, rfl⟩
  obtain ⟨j, hj⟩ : ∃ i, 2 * m'.toNat - 2 + (if 15 < d' then 1 else 0) = i := ⟨_, rfl⟩
  unfold halfLet
  rw [hi, hj]
  have i1 : i < 24 := by split at hi <;> omega
  have j1 : j < 24 := by split at hj <;> omega
  rw [ord_mono i i1 j j1, ord_mono j j1 i i1]
  refine ⟨ord_half i i1, ?_, ?_⟩ <;> (split at hi <;> split at hj <;> omega)
structure OnlyS (w w' : World) : Prop where
  tb : Tb w'
  below : Below w.heap.size w w'
set_option maxRecDepth 100000 in
set_option maxHeartbeats 16000000 in
theorem halves_any (a b c d : Int) (w : World) (hT : Tb w) :
    Calls Tryd.prog 6 #[.int .i64 a, .int .i64 b, .int .i64 c, .int .i64 d] w fun e w' => e = .returned (.bool true) ∧ Below w.heap.size w w' := by
  have HT := Lib.hid hT
  clear hT
  by_cases g1 : 1 ≤ a ∧ a ≤ 12 ∧ 1 ≤ b ∧ b ≤ 31
  · by_cases g2 : 1 ≤ c ∧ c ≤ 12 ∧ 1 ≤ d ∧ d ≤ 31
    · obtain ⟨a0, a1, b0, b1⟩ := g1
      obtain ⟨c0, c1, d0, d1⟩ := g2
      obtain ⟨k1, k2, k3⟩ := halfLet_is a b c d a0 a1 c0 c1
      have H1 := Lib.hid (show HalfIs a b (halfLet a b) 0 from Or.inl ⟨a0, a1, b0, b1, rfl, rfl⟩)
      have H2 := Lib.hid (show HalfIs c d (halfLet c d) 0 from Or.inl ⟨c0, c1, d0, d1, rfl, rfl⟩)
      generalize halfLet a b = u at *
      generalize halfLet c d = v at *
      have hh := (halfB_true k1).symm
      clear k1
      go_enter Tryd.func6, Tryd.ntmps6
      go_wp2_with fail
      refine (alive_any _ HT.out).mono ?_
      rintro e w1 ⟨rfl, hb⟩
      have T1 := HT.out.below hb
      have B1 := Lib.hid hb
      clear hb
      go_wp2_with fail
      refine (Half_any a b _ T1.ord).mono ?_
      rintro e w2 ⟨v1, x1, rfl, i1, rfl⟩
      obtain ⟨rfl, rfl⟩ := i1.uniq H1.out
      clear i1 H1
      go_wp2_with fail
      refine (Half_any c d _ T1.ord).mono ?_
      rintro e w2 ⟨v2, x2, rfl, i2, rfl⟩
      obtain ⟨rfl, rfl⟩ := i2.uniq H2.out
      clear i2 H2
      rcases (show a < c ∨ c < a ∨ (a = c ∧ b ≤ 15 ∧ 15 < d) ∨ (a = c ∧ b ≤ 15 ∧ d ≤ 15) ∨ (a = c ∧ 15 < b ∧ 15 < d) ∨ (a = c ∧ 15 < b ∧ d ≤ 15) by omega) with m | m | ⟨rfl, m2, m3⟩ | ⟨rfl, m2, m3⟩ | ⟨rfl, m2, m3⟩ | ⟨rfl, m2, m3⟩
      · have w1 : v1 < v2 := k2.2 (by omega)
        have w2 : (v1 == v2) = false := by rw [beq_eq_false_iff_ne]; omega
        have w3 : (a == c) = false := by rw [beq_eq_false_iff_ne]; omega
        clear k2 k3
        go_wp2_with (refine (halfLetter_any _ _).mono ?_; rintro e w3 ⟨rfl, rfl⟩)
        go_ret
        exact ⟨rfl, B1.out⟩
      · have w1 : v2 < v1 := k3.2 (by omega)
        have pw : decide (v1 < v2) = false := decide_eq_false (by omega)
        have pa : decide (a < c) = false := decide_eq_false (by omega)
        have w2 : (v1 == v2) = false := by rw [beq_eq_false_iff_ne]; omega
        have w3 : (a == c) = false := by rw [beq_eq_false_iff_ne]; omega
        clear k2 k3
        go_wp2_with (refine (halfLetter_any _ _).mono ?_; rintro e w3 ⟨rfl, rfl⟩)
        go_ret
        exact ⟨rfl, B1.out⟩
      · have w1 : v1 < v2 := k2.2 (by omega)
        have w2 : (v1 == v2) = false := by rw [beq_eq_false_iff_ne]; omega
        have pb : decide (b ≤ 15) = true := decide_eq_true (by omega)
        have pf : decide (15 < b) = false := decide_eq_false (by omega)
        have pd : decide (d ≤ 15) = false := decide_eq_false (by omega)
        have pe : decide (15 < d) = true := decide_eq_true (by omega)
        clear k2 k3
        go_wp2_with (refine (halfLetter_any _ _).mono ?_; rintro e w3 ⟨rfl, rfl⟩)
        go_ret
        exact ⟨rfl, B1.out⟩
      · obtain rfl : v1 = v2 := by
          have x := mt k2.1 (by omega)
          have y := mt k3.1 (by omega)
          omega
        have pb : decide (b ≤ 15) = true := decide_eq_true (by omega)
        have pf : decide (15 < b) = false := decide_eq_false (by omega)
        have pd : decide (d ≤ 15) = true := decide_eq_true (by omega)
        have pe : decide (15 < d) = false := decide_eq_false (by omega)
        clear k2 k3
        go_wp2_with (refine (halfLetter_any _ _).mono ?_; rintro e w3 ⟨rfl, rfl⟩)
        go_ret
        exact ⟨rfl, B1.out⟩
      · obtain rfl : v1 = v2 := by
          have x := mt k2.1 (by omega)
          have y := mt k3.1 (by omega)
          omega
        have pb : decide (b ≤ 15) = false := decide_eq_false (by omega)
        have pf : decide (15 < b) = true := decide_eq_true (by omega)
        have pd : decide (d ≤ 15) = false := decide_eq_false (by omega)
        have pe : decide (15 < d) = true := decide_eq_true (by omega)
        clear k2 k3
        go_wp2_with (refine (halfLetter_any _ _).mono ?_; rintro e w3 ⟨rfl, rfl⟩)
        go_ret
        exact ⟨rfl, B1.out⟩
      · have w1 : v2 < v1 := k3.2 (by omega)
        have pw : decide (v1 < v2) = false := decide_eq_false (by omega)
        have w2 : (v1 == v2) = false := by rw [beq_eq_false_iff_ne]; omega
        have pb : decide (b ≤ 15) = false := decide_eq_false (by omega)
        have pf : decide (15 < b) = true := decide_eq_true (by omega)
        have pd : decide (d ≤ 15) = true := decide_eq_true (by omega)
        have pe : decide (15 < d) = false := decide_eq_false (by omega)
        clear k2 k3
        go_wp2_with (refine (halfLetter_any _ _).mono ?_; rintro e w3 ⟨rfl, rfl⟩)
        go_ret
        exact ⟨rfl, B1.out⟩
    · have H2 := Lib.hid (show HalfIs c d 0 2 from Or.inr ⟨g2, rfl, rfl⟩)
      obtain ⟨a0, a1, b0, b1⟩ := g1
      have H1 := Lib.hid (show HalfIs a b (halfLet a b) 0 from Or.inl ⟨a0, a1, b0, b1, rfl, rfl⟩)
      generalize halfLet a b = u at *
      clear g2
      go_enter Tryd.func6, Tryd.ntmps6
      go_wp2_with fail
      refine (alive_any _ HT.out).mono ?_
      rintro e w1 ⟨rfl, hb⟩
      have T1 := HT.out.below hb
      have B1 := Lib.hid hb
      clear hb
      go_wp2_with fail
      refine (Half_any a b _ T1.ord).mono ?_
      rintro e w2 ⟨v1, x1, rfl, i1, rfl⟩
      obtain ⟨rfl, rfl⟩ := i1.uniq H1.out
      clear i1 H1
      go_wp2_with fail
      refine (Half_any c d _ T1.ord).mono ?_
      rintro e w2 ⟨v2, x2, rfl, i2, rfl⟩
      obtain ⟨rfl, rfl⟩ := i2.uniq H2.out
      clear i2 H2
      go_wp2_with fail
      go_ret
      exact ⟨rfl, B1.out⟩
  · have H1 := Lib.hid (show HalfIs a b 0 2 from Or.inr ⟨g1, rfl, rfl⟩)
    have H2 : Hid (∀ v k, HalfIs c d v k → k ≠ 0 ∨ 1 ≤ d ∧ d ≤ 31) := Lib.hid (fun v k i => by
      rcases i with ⟨_, _, x, y, _, _⟩ | ⟨_, _, x⟩
      · exact Or.inr ⟨x, y⟩
      · exact Or.inl (by omega))
    clear g1
    go_enter Tryd.func6, Tryd.ntmps6
    go_wp2_with fail
    refine (alive_any _ HT.out).mono ?_
    rintro e w1 ⟨rfl, hb⟩
    have T1 := HT.out.below hb
    have B1 := Lib.hid hb
    clear hb
    go_wp2_with fail
    refine (Half_any a b _ T1.ord).mono ?_
    rintro e w2 ⟨v1, x1, rfl, i1, rfl⟩
    obtain ⟨rfl, rfl⟩ := i1.uniq H1.out
    clear i1 H1
    go_wp2_with fail
    refine (Half_any c d _ T1.ord).mono ?_
    rintro e w2 ⟨v2, x2, rfl, i2, rfl⟩
    have hd := H2.out _ _ i2
    clear i2 H2
    by_cases x0 : x2 = 0
    · obtain rfl := x0
      have d0 : 1 ≤ d := by omega
      have d1 : d ≤ 31 := by omega
      clear hd
      go_wp2_with fail
      go_ret
      exact ⟨rfl, B1.out⟩
    · have e0 : (x2 != 0) = true := by rw [bne_iff_ne]; exact x0
      clear hd x0
      go_wp2_with fail
      go_ret
      exact ⟨rfl, B1.out⟩
end Dw
end Go.Proofs.YtdjndoafnoidbaaDoor
