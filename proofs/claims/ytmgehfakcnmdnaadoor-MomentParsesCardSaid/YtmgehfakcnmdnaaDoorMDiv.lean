/-
  Plain arithmetic under math/bits.Div64: a quotient of two digits of 32 bits; no program in sight.
-/
import Derived.WalkKit
namespace Go.Proofs.YtmgehfakcnmdnaaDoor
namespace Dv

theorem q_mul (q y1 y0 : Nat) : q * (y1 * 4294967296 + y0) = q * y1 * 4294967296 + q * y0 := by rw [Nat.mul_add, Nat.mul_assoc]
/-- A guess of a digit that is not too small, with what the guess leaves of the first digits. -/
structure Dig (u y1 y0 x q r : Nat) : Prop where
  eq : u = q * y1 + r
  ge : (u * 4294967296 + x) / (y1 * 4294967296 + y0) ≤ q
theorem dig_start {u y1 y0 x : Nat} (h1 : 0 < y1) (hx : x < 4294967296) : Dig u y1 y0 x (u / y1) (u - u / y1 * y1) := by
  have e := Nat.div_mul_le_self u y1
  refine ⟨by omega, ?_⟩
  have h2 : (u * 4294967296 + x) / (y1 * 4294967296 + y0) ≤ (u * 4294967296 + x) / (4294967296 * y1) := Nat.div_le_div_left (by omega) (by omega)
  rw [← Nat.div_div_eq_div_mul] at h2
  have h3 : (u * 4294967296 + x) / 4294967296 = u := by omega
  rw [h3] at h2
  exact h2
theorem lin_lt {u P r x Z : Nat} (h : u = P + r) (hc : r * 4294967296 + x < Z) : u * 4294967296 + x < P * 4294967296 + Z := by
  rw [h, Nat.add_mul, Nat.add_assoc]; exact Nat.add_lt_add_left hc _
theorem lin_le {u P r x Z : Nat} (h : u = P + r) (hc : Z ≤ r * 4294967296 + x) : P * 4294967296 + Z ≤ u * 4294967296 + x := by omega
theorem lin_one {u x : Nat} (hx : x < 4294967296) : u * 4294967296 + x < (u + 1) * 4294967296 := by rw [Nat.add_mul]; omega
theorem lin_B {u Y x Z : Nat} (hu : u < Y) (hx : x < 4294967296) (h : Y * 4294967296 ≤ Z) : u * 4294967296 + x < Z :=
  Nat.lt_of_lt_of_le (lin_one hx) (Nat.le_trans (Nat.mul_le_mul_right _ hu) h)
theorem dig_step {u y1 y0 x q r : Nat} (h : Dig u y1 y0 x q r) (hu : u < y1 * 4294967296 + y0) (hx : x < 4294967296) (hc : 4294967296 ≤ q ∨ r * 4294967296 + x < q * y0) : 1 ≤ q ∧ Dig u y1 y0 x (q - 1) (r + y1) := by
  have hl : (u * 4294967296 + x) / (y1 * 4294967296 + y0) < q := by
    rw [Nat.div_lt_iff_lt_mul (by omega)]
    rcases hc with hc | hc
    · exact lin_B hu hx (by rw [Nat.mul_comm]; exact Nat.mul_le_mul_right (y1 * 4294967296 + y0) hc)
    · rw [q_mul]
      exact lin_lt h.eq hc
  have hq : 1 ≤ q := Nat.lt_of_le_of_lt (Nat.zero_le _) hl
  refine ⟨hq, ?_, Nat.le_sub_one_of_lt hl⟩
  obtain ⟨k, rfl⟩ : ∃ k, q = k + 1 := ⟨q - 1, by omega⟩
  have := h.eq
  rw [Nat.add_mul] at this
  simp only [Nat.add_sub_cancel]
  omega
theorem dig_end {u y1 y0 x q r : Nat} (h : Dig u y1 y0 x q r) (hY : 0 < y1 * 4294967296 + y0) (hc : q * y0 ≤ r * 4294967296 + x) : q = (u * 4294967296 + x) / (y1 * 4294967296 + y0) :=
  Nat.le_antisymm ((Nat.le_div_iff_mul_le hY).2 (by
    rw [q_mul]
    exact lin_le h.eq hc)) h.ge
theorem lin_brk {Z y0 r x : Nat} (h : Z ≤ y0 * 4294967296) (h0 : y0 < 4294967296) (hr : 4294967296 ≤ r) : Z ≤ r * 4294967296 + x :=
  Nat.le_trans h (Nat.le_trans (Nat.mul_le_mul_right _ (Nat.le_trans (Nat.le_of_lt h0) hr)) (Nat.le_add_right _ _))
theorem dig_break {q y0 r x : Nat} (hq : q ≤ 4294967296) (h0 : y0 < 4294967296) (hr : 4294967296 ≤ r) : q * y0 ≤ r * 4294967296 + x := by
  have h1 := Nat.mul_le_mul_right y0 hq
  rw [Nat.mul_comm 4294967296 y0] at h1
  exact lin_brk h1 h0 hr
theorem lin_two {u Y y1 y0 q : Nat} (hu : u < Y + y0) (h0 : y0 < 4294967296) (h1 : 2147483648 ≤ y1) (h : Y + 2 * y1 ≤ u) : q ≤ 4294967297 := by omega
theorem dig_bd {u y1 y0 q : Nat} (hu : u < y1 * 4294967296 + y0) (h0 : y0 < 4294967296) (h1 : 2147483648 ≤ y1) (hq : q * y1 ≤ u) : q ≤ 4294967297 := by
  rcases Nat.lt_or_ge 4294967297 q with h | h
  · have h2 := Nat.mul_le_mul_right y1 (show 4294967298 ≤ q from h)
    have h3 : 4294967298 * y1 = y1 * 4294967296 + 2 * y1 := by rw [Nat.mul_comm, ← Nat.mul_comm y1 2, ← Nat.mul_add]
    rw [h3] at h2
    exact lin_two hu h0 h1 (Nat.le_trans h2 hq)
  · exact h
theorem dig_bd0 {u y1 y0 : Nat} (hu : u < y1 * 4294967296 + y0) (h0 : y0 < 4294967296) (h1 : 2147483648 ≤ y1) : u / y1 ≤ 4294967297 := dig_bd hu h0 h1 (Nat.div_mul_le_self u y1)
theorem lin_dm {A r V x : Nat} (h : A + r = V) : V * 4294967296 + x = A * 4294967296 + (r * 4294967296 + x) := by omega
theorem lin_sh {A q L r : Nat} (h : 18446744073709551616 * q + r = L) : (A + q) * 18446744073709551616 + r = A * 18446744073709551616 + L := by omega
theorem lin_sz {A r Z : Nat} (h : A * 18446744073709551616 + r < Z * 18446744073709551616) : A < Z := by omega
theorem lin_64 {u L : Nat} : (u * 4294967296 + L % 18446744073709551616 / 4294967296) * 4294967296 + L % 18446744073709551616 % 4294967296 = u * 18446744073709551616 + L % 18446744073709551616 := by omega
theorem lin_hl {hi lo y : Nat} (hy : hi < y) (hl : lo < 18446744073709551616) : hi * 18446744073709551616 + lo < y * 18446744073709551616 := by omega
/-- Two digits, one behind the other. -/
theorem two_digits (V x0 Y : Nat) (hY : 0 < Y) :
    (V * 4294967296 + x0) / Y = V / Y * 4294967296 + (V % Y * 4294967296 + x0) / Y ∧ (V * 4294967296 + x0) % Y = (V % Y * 4294967296 + x0) % Y := by
  have e : V * 4294967296 + x0 = Y * (V / Y * 4294967296) + (V % Y * 4294967296 + x0) := by
    rw [← Nat.mul_assoc]
    exact lin_dm (Nat.div_add_mod V Y)
  rw [e]
  exact ⟨Nat.mul_add_div hY _ _, Nat.mul_add_mod _ _ _⟩
/-- What Div64 does with shifted numbers: P is the power of two of the shift, Q what is left of 2^64. -/
theorem div_shift (hi lo y P Q : Nat) (hP : P * Q = 18446744073709551616) (hy : hi < y) (hl : lo < 18446744073709551616) :
    (hi * P + lo / Q) * 18446744073709551616 + lo * P % 18446744073709551616 = (hi * 18446744073709551616 + lo) * P ∧ hi * P + lo / Q < y * P := by
  have hP0 : 0 < P := Nat.pos_of_ne_zero fun h => by subst h; simp at hP
  have hQ0 : 0 < Q := Nat.pos_of_ne_zero fun h => by subst h; simp at hP
  have e1 : lo * P / 18446744073709551616 = lo / Q := by rw [← hP, Nat.mul_comm P Q, Nat.mul_div_mul_right _ _ hP0]
  have e2 := Nat.div_add_mod (lo * P) 18446744073709551616
  rw [e1] at e2
  have e3 : (hi * P + lo / Q) * 18446744073709551616 + lo * P % 18446744073709551616 = (hi * 18446744073709551616 + lo) * P := by
    rw [Nat.add_mul (hi * 18446744073709551616) lo P, Nat.mul_right_comm]
    exact lin_sh e2
  refine ⟨e3, ?_⟩
  have h1 : (hi * 18446744073709551616 + lo) * P < y * 18446744073709551616 * P := Nat.mul_lt_mul_of_pos_right (lin_hl hy hl) hP0
  rw [← e3, Nat.mul_right_comm y] at h1
  exact lin_sz h1
theorem div_all (hi lo y P Q : Nat) (hP : P * Q = 18446744073709551616) (hy : hi < y) (hl : lo < 18446744073709551616) (u x1 x0 : Nat)
    (hu : u = hi * P + lo / Q) (h1 : x1 = lo * P % 18446744073709551616 / 4294967296) (h0 : x0 = lo * P % 18446744073709551616 % 4294967296) :
    (u * 4294967296 + x1) / (y * P) * 4294967296 + ((u * 4294967296 + x1) % (y * P) * 4294967296 + x0) / (y * P) = (hi * 18446744073709551616 + lo) / y ∧
    ((u * 4294967296 + x1) % (y * P) * 4294967296 + x0) % (y * P) / P = (hi * 18446744073709551616 + lo) % y := by
  obtain ⟨e, _⟩ := div_shift hi lo y P Q hP hy hl
  have hP0 : 0 < P := Nat.pos_of_ne_zero fun h => by subst h; simp at hP
  have hy0 : 0 < y := by omega
  have hY : 0 < y * P := Nat.mul_pos hy0 hP0
  obtain ⟨t1, t2⟩ := two_digits (u * 4294967296 + x1) x0 (y * P) hY
  have e2 : (u * 4294967296 + x1) * 4294967296 + x0 = (hi * 18446744073709551616 + lo) * P := by
    rw [← e, ← hu, h1, h0]
    exact lin_64
  rw [e2] at t1 t2
  rw [← t1, ← t2, Nat.mul_div_mul_right _ _ hP0, Nat.mul_mod_mul_right, Nat.mul_div_cancel _ hP0]
  exact ⟨rfl, rfl⟩
end Dv
end Go.Proofs.YtmgehfakcnmdnaaDoor
