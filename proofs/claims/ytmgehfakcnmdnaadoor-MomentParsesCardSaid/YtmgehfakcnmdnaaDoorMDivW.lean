/-
  The walk of math/bits.Div64.
-/
import Derived.Test.YtmgehfakcnmdnaaDoorMDiv
import Derived.Test.YtmgehfakcnmdnaaDoorMTen
import Derived.Test.YtmgehfakcnmdnaaDoorShelf
import Derived.Lib.BitFns
import Derived.Laws.Bits64b
namespace Go.Proofs.YtmgehfakcnmdnaaDoor
namespace Dv
open Go.RowKit Lw

theorem len_aux : ∀ f x : Nat, x < 2 ^ f → x < 2 ^ Lib.bitLenAux f x ∧ (0 < x → 1 ≤ Lib.bitLenAux f x ∧ 2 ^ (Lib.bitLenAux f x - 1) ≤ x) ∧ Lib.bitLenAux f x ≤ f
  | 0, x, h => ⟨by simpa [Lib.bitLenAux] using h, fun g => by simp at h; omega, by simp [Lib.bitLenAux]⟩
  | f + 1, x, h => by
    have ih := len_aux f (x / 2) (by rw [Nat.pow_succ] at h; omega)
    by_cases hx : x = 0
    · subst hx
      simp [Lib.bitLenAux]
    · have e : Lib.bitLenAux (f + 1) x = 1 + Lib.bitLenAux f (x / 2) := by
        show (if x = 0 then 0 else 1 + Lib.bitLenAux f (x / 2)) = _
        rw [if_neg hx]
      rw [e]
      by_cases hx2 : x / 2 = 0
      · have h1 : x = 1 := by omega
        have z : Lib.bitLenAux f 0 = 0 := by cases f <;> simp [Lib.bitLenAux]
        rw [hx2, z, h1]
        exact ⟨by decide, fun _ => ⟨by decide, by decide⟩, by omega⟩
      · obtain ⟨i1, i2, i3⟩ := ih
        obtain ⟨j1, j2⟩ := i2 (by omega)
        obtain ⟨m, hm⟩ : ∃ m, Lib.bitLenAux f (x / 2) = m + 1 := ⟨Lib.bitLenAux f (x / 2) - 1, by omega⟩
        rw [hm] at i1 i3 j2 ⊢
        rw [Nat.add_sub_cancel] at j2
        refine ⟨by rw [Nat.add_comm, Nat.pow_succ]; omega, fun _ => ⟨by omega, ?_⟩, by omega⟩
        rw [Nat.add_sub_cancel_left, Nat.pow_succ]
        omega
theorem bitLen_pos {y : Nat} (h : 0 < y) (h2 : y < 2 ^ 64) : 2 ^ (Lib.bitLen y - 1) ≤ y ∧ y < 2 ^ Lib.bitLen y ∧ 1 ≤ Lib.bitLen y ∧ Lib.bitLen y ≤ 64 := by
  obtain ⟨a, b, c⟩ := len_aux 64 y h2
  obtain ⟨b1, b2⟩ := b h
  exact ⟨b2, a, b1, c⟩
/-- The shift that moves a number's highest bit to the top. -/
theorem shift_ex {y : Nat} (h : 0 < y) (h2 : y < 18446744073709551616) : ∃ s P Q : Nat, s = 64 - Lib.bitLen y ∧ s ≤ 63 ∧ P = 2 ^ s ∧ Q = 2 ^ (64 - s) ∧ P * Q = 18446744073709551616 ∧ 9223372036854775808 ≤ y * P ∧ y * P < 18446744073709551616 ∧ Lib.bitLen y ≤ 64 := by
  obtain ⟨b1, b2, b3, b4⟩ := bitLen_pos h h2
  refine ⟨64 - Lib.bitLen y, _, _, rfl, by omega, rfl, rfl, ?_, ?_, ?_, b4⟩
  · rw [← Nat.pow_add, show 64 - Lib.bitLen y + (64 - (64 - Lib.bitLen y)) = 64 by omega]
  · have := Nat.mul_le_mul_right (2 ^ (64 - Lib.bitLen y)) b1
    rw [← Nat.pow_add, show Lib.bitLen y - 1 + (64 - Lib.bitLen y) = 63 by omega] at this
    exact this
  · have := Nat.mul_lt_mul_of_pos_right b2 (show 0 < 2 ^ (64 - Lib.bitLen y) from Nat.pow_pos (by omega))
    rw [← Nat.pow_add, show Lib.bitLen y + (64 - Lib.bitLen y) = 64 by omega] at this
    exact this
/-! ### The walk's numbers, as naturals -/
theorem w_id {a : Nat} (h : a < 18446744073709551616) : IntKind.u64.wrap (a : Int) = (a : Int) := by rw [IntKind.wrap_u64]; omega
theorem w_mod (a : Nat) : IntKind.u64.wrap (a : Int) = ((a % 18446744073709551616 : Nat) : Int) := by rw [IntKind.wrap_u64]; omega
theorem w_mul {a b c : Nat} (h : a * b % 18446744073709551616 = c) : IntKind.u64.wrap ((a : Int) * (b : Int)) = (c : Int) := by
  rw [show (a : Int) * (b : Int) = ((a * b : Nat) : Int) from (Int.natCast_mul a b).symm, w_mod, h]
theorem w_add {a b c : Nat} (h : (a + b) % 18446744073709551616 = c) : IntKind.u64.wrap ((a : Int) + (b : Int)) = (c : Int) := by
  rw [show (a : Int) + (b : Int) = ((a + b : Nat) : Int) from (Int.natCast_add a b).symm, w_mod, h]
theorem w_sub {a b c : Nat} (hb : b < 18446744073709551616) (h : (a + 18446744073709551616 - b) % 18446744073709551616 = c) : IntKind.u64.wrap ((a : Int) - (b : Int)) = (c : Int) := by
  rw [IntKind.wrap_u64]; omega
theorem w_div {a b c : Nat} (h : a / b = c) (hc : c < 18446744073709551616) : IntKind.u64.wrap ((a : Int).tdiv (b : Int)) = (c : Int) := by
  rw [Int.tdiv_eq_ediv_of_nonneg (by omega), show (a : Int) / (b : Int) = ((a / b : Nat) : Int) from (Int.natCast_ediv a b).symm, h, w_id hc]
theorem and_mask (a : Nat) (ha : a < 18446744073709551616) : bits .and .u64 (a : Int) 4294967295 = ((a % 4294967296 : Nat) : Int) := by
  have h := bits_and_u64_nat a 4294967295 ha (by omega)
  have e : a &&& 4294967295 = a % 4294967296 := Nat.and_two_pow_sub_one_eq_mod a 32
  rw [e] at h
  exact h
/-! ### The walk -/
theorem dig_test {a b x y0 Z T T2 : Nat} (hx : x < 4294967296) (hy : y0 < 4294967296) (hb : b < 4294967296) (eZ : Z = a * y0 % 18446744073709551616) (eT : T = 4294967296 * b % 18446744073709551616) (eT2 : T2 = (T + x) % 18446744073709551616) :
    a < 4294967296 → (T2 < Z ↔ b * 4294967296 + x < a * y0) ∧ Z < 18446744073709551616 := fun ha => by
  have h1 : a * y0 < 18446744073709551616 := Nat.lt_of_le_of_lt (Nat.mul_le_mul (show a ≤ 4294967295 by omega) (show y0 ≤ 4294967295 by omega)) (by decide)
  rw [Nat.mod_eq_of_lt h1] at eZ
  omega
set_option maxRecDepth 100000 in
set_option maxHeartbeats 16000000 in
theorem div_low (lo y : Nat) (w : World) (h1 : 0 < y) (h2 : lo < 18446744073709551616) (h3 : y < 18446744073709551616) :
    Calls Tryd.prog 22 #[.int .u64 0, .int .u64 lo, .int .u64 y] w fun e w' => e = .returned (.tuple #[.int .u64 ((lo / y : Nat) : Int), .int .u64 ((lo % y : Nat) : Int)]) ∧ Below w.heap.size w w' := by
  have i0 : ((y : Int) == 0) = false := beq_eq_false_iff_ne.2 (by omega)
  have i1 : ¬ (y : Int) ≤ 0 := by omega
  have n0 : ¬ (y : Int) = 0 := by omega
  have d1 : (lo : Int) / (y : Int) = ((lo / y : Nat) : Int) := (Int.natCast_ediv lo y).symm
  have d2 : (lo : Int) % (y : Int) = ((lo % y : Nat) : Int) := (Int.natCast_emod lo y).symm
  have d5 := Nat.div_le_self lo y
  have d6 := Nat.mod_le lo y
  have d3 : IntKind.u64.wrap ((lo : Int).tdiv (y : Int)) = ((lo / y : Nat) : Int) := w_div rfl (by omega)
  have d4 : IntKind.u64.wrap ((lo : Int).tmod (y : Int)) = ((lo % y : Nat) : Int) := by
    rw [Int.tmod_eq_emod_of_nonneg (by omega), d2, w_id (by omega)]
  generalize lo / y = A at *
  generalize lo % y = B at *
  go_enter Tryd.func22, Tryd.ntmps22
  go_wp2_with fail
  go_quiet (fail)
  go_wp2_with fail
  go_ret2
  exact ⟨by first | rfl | simp [*], drewN_below2 (Below.refl _ _) _⟩
set_option maxRecDepth 100000 in
set_option maxHeartbeats 16000000 in
theorem div_high (hi lo y : Nat) (w : World) (hz : 0 < hi) (h1 : hi < y) (h2 : lo < 18446744073709551616) (h3 : y < 18446744073709551616) :
    Calls Tryd.prog 22 #[.int .u64 hi, .int .u64 lo, .int .u64 y] w fun e w' => e = .returned (.tuple #[.int .u64 (((hi * 18446744073709551616 + lo) / y : Nat) : Int), .int .u64 (((hi * 18446744073709551616 + lo) % y : Nat) : Int)]) ∧ w = w' := by
  have i0 : ((y : Int) == 0) = false := beq_eq_false_iff_ne.2 (by omega)
  have i1 : ¬ (y : Int) ≤ (hi : Int) := by omega
  have i2 : ((hi : Int) == 0) = false := beq_eq_false_iff_ne.2 (by omega)
  obtain ⟨s, P, Q, es, s63, eP, eQ, hPQ, hY1, hY2, hbl⟩ := shift_ex (y := y) (by omega) h3
  have LZ := fun w' => Tryd.bits_LeadingZeros64 (y : Int) w' (by omega) (by omega)
  rw [show (64 - (Lib.bitLen (y : Int).toNat : Int)) = (s : Int) by simp; omega] at LZ
  replace LZ := Lib.hid LZ
  have rP : (2 : Int) ^ s = (P : Int) := by rw [eP]; simp
  have rQ : (2 : Int) ^ (64 - s) = (Q : Int) := by rw [eQ]; simp
  have P0 : 0 < P := Nat.pos_of_ne_zero fun h => by subst h; simp at hPQ
  have lq : lo / Q < P := Nat.div_lt_of_lt_mul (by rw [Nat.mul_comm, hPQ]; exact h2)
  have hh : hi * P < 18446744073709551616 := Nat.lt_trans (Nat.mul_lt_mul_of_pos_right h1 P0) hY2
  obtain ⟨ds, du⟩ := div_shift hi lo y P Q hPQ h1 h2
  obtain ⟨Y, eY⟩ : ∃ Y, Y = y * P := ⟨_, rfl⟩
  obtain ⟨H, eH⟩ : ∃ H, H = hi * P := ⟨_, rfl⟩
  obtain ⟨LQ, eLQ⟩ : ∃ LQ, LQ = lo / Q := ⟨_, rfl⟩
  obtain ⟨L, eL⟩ : ∃ L, L = lo * P % 18446744073709551616 := ⟨_, rfl⟩
  obtain ⟨u, eu⟩ : ∃ u, u = H + LQ := ⟨_, rfl⟩
  obtain ⟨y1, ey1⟩ : ∃ y1, y1 = Y / 4294967296 := ⟨_, rfl⟩
  obtain ⟨y0, ey0⟩ : ∃ y0, y0 = Y % 4294967296 := ⟨_, rfl⟩
  obtain ⟨x1, ex1⟩ : ∃ x1, x1 = L / 4294967296 := ⟨_, rfl⟩
  obtain ⟨x0, ex0⟩ : ∃ x0, x0 = L % 4294967296 := ⟨_, rfl⟩
  have da := div_all hi lo y P Q hPQ h1 h2 u x1 x0 (by rw [eu, eH, eLQ]) (by rw [ex1, eL]) (by rw [ex0, eL])
  rw [← eY] at da hY1 hY2 du
  rw [← eH, ← eLQ, ← eu] at du
  have L64 : L < 18446744073709551616 := by rw [eL]; exact Nat.mod_lt _ (by decide)
  have Ye : y1 * 4294967296 + y0 = Y := by rw [ey1, ey0, Nat.mul_comm]; exact Nat.div_add_mod _ _
  have y1l : 2147483648 ≤ y1 := by omega
  have y1u : y1 < 4294967296 := by omega
  have y0u : y0 < 4294967296 := by omega
  have f1 : IntKind.u64.wrap ((y : Int) * (P : Int)) = (Y : Int) := w_mul (by rw [← eY]; exact Nat.mod_eq_of_lt hY2)
  have f2 : (Y : Int) / 4294967296 = (y1 : Int) := by omega
  have f3 : bits .and .u64 (Y : Int) 4294967295 = (y0 : Int) := by rw [and_mask Y hY2, ey0]
  have f4 : IntKind.u64.wrap ((hi : Int) * (P : Int)) = (H : Int) := w_mul (by rw [← eH]; exact Nat.mod_eq_of_lt (by rw [eH]; exact hh))
  have f5 : (lo : Int) / (Q : Int) = (LQ : Int) := by rw [eLQ]; exact (Int.natCast_ediv lo Q).symm
  have f6 : bits .or .u64 (H : Int) (LQ : Int) = (u : Int) := by
    rw [bits_or_u64_nat H LQ (by rw [eH]; exact hh) (by omega), eu, eH, eP, Nat.mul_comm hi (2 ^ s)]
    congr 1
    exact (Nat.two_pow_add_eq_or_of_lt (by rw [← eP, eLQ]; exact lq) hi).symm
  have f7 : IntKind.u64.wrap ((lo : Int) * (P : Int)) = (L : Int) := w_mul eL.symm
  have f8 : (L : Int) / 4294967296 = (x1 : Int) := by omega
  have f9 : bits .and .u64 (L : Int) 4294967295 = (x0 : Int) := by rw [and_mask L L64, ex0]
  have HXx1 := Lib.hid (show x1 < 4294967296 by omega)
  have HXx0 := Lib.hid (show x0 < 4294967296 by omega)
  have uY : u < y1 * 4294967296 + y0 := by omega
  have u64 : u < 18446744073709551616 := by omega
  obtain ⟨a1, ea1⟩ : ∃ a1, a1 = u / y1 := ⟨_, rfl⟩
  obtain ⟨Z1, eZ1⟩ : ∃ Z1, Z1 = a1 * y1 := ⟨_, rfl⟩
  obtain ⟨r1, er1⟩ : ∃ r1, r1 = u - Z1 := ⟨_, rfl⟩
  have hZ1 : Z1 ≤ u := by rw [eZ1, ea1]; exact Nat.div_mul_le_self u y1
  have a1u : a1 ≤ 4294967297 := by rw [ea1]; exact dig_bd0 uY y0u y1l
  have n1 : ¬ (y1 : Int) = 0 := by omega
  have k1 : IntKind.u64.wrap (a1 : Int) = (a1 : Int) := w_id (by omega)
  have k2 : IntKind.u64.wrap (r1 : Int) = (r1 : Int) := w_id (by omega)
  have f10 : IntKind.u64.wrap ((u : Int).tdiv (y1 : Int)) = (a1 : Int) := w_div ea1.symm (by omega)
  have f10' : (u : Int) / (y1 : Int) = (a1 : Int) := by rw [ea1]; exact (Int.natCast_ediv u y1).symm
  have f11 : IntKind.u64.wrap ((a1 : Int) * (y1 : Int)) = (Z1 : Int) := w_mul (by rw [← eZ1]; exact Nat.mod_eq_of_lt (by omega))
  have f12 : IntKind.u64.wrap ((u : Int) - (Z1 : Int)) = (r1 : Int) := w_sub (by omega) (by omega)
  have f12' : (u : Int) - (Z1 : Int) = (r1 : Int) := by omega
  have S1 := Lib.hid (show Hid (Dig u y1 y0 x1 a1 r1) ∧ a1 ≤ 4294967297 ∧ r1 < 4294967296 from ⟨Lib.hid (by rw [er1, eZ1, ea1]; exact dig_start (by omega) HXx1.out), a1u, by
    have := Nat.mod_lt u (show 0 < y1 by omega)
    have e := Nat.div_add_mod u y1
    rw [Nat.mul_comm, ← ea1, ← eZ1] at e
    omega⟩)
  obtain ⟨q1, eq1⟩ : ∃ q1, q1 = (u * 4294967296 + x1) / (y1 * 4294967296 + y0) := ⟨_, rfl⟩
  obtain ⟨R1, eR1⟩ : ∃ R1, R1 = (u * 4294967296 + x1) % Y := ⟨_, rfl⟩
  have R1Y : R1 < y1 * 4294967296 + y0 := by rw [eR1, Ye]; exact Nat.mod_lt _ (by omega)
  obtain ⟨q0, eq0⟩ : ∃ q0, q0 = (R1 * 4294967296 + x0) / (y1 * 4294967296 + y0) := ⟨_, rfl⟩
  obtain ⟨R0, eR0⟩ : ∃ R0, R0 = (R1 * 4294967296 + x0) % Y := ⟨_, rfl⟩
  have R0Y : R0 < Y := by rw [eR0]; exact Nat.mod_lt _ (by omega)
  have dm1 : q1 * Y + R1 = u * 4294967296 + x1 := by rw [eq1, eR1, Ye, Nat.mul_comm]; exact Nat.div_add_mod _ _
  have dm0 : q0 * Y + R0 = R1 * 4294967296 + x0 := by rw [eq0, eR0, Ye, Nat.mul_comm]; exact Nat.div_add_mod _ _
  rw [← eR1, ← eR0] at da
  rw [Ye] at eq1 eq0
  rw [← eq1, ← eq0] at da
  rw [← Ye] at eq1 eq0
  have Eq1 := Lib.hid eq1
  have Eq0 := Lib.hid eq0
  obtain ⟨da1, da2⟩ := da
  have N64 : (hi * 18446744073709551616 + lo) / y < 18446744073709551616 := (Nat.div_lt_iff_lt_mul (by omega)).2 (by have hl := lin_hl h1 h2; rw [Nat.mul_comm y] at hl; exact hl)
  rw [← da1] at N64
  rw [← da1, ← da2]
  obtain ⟨U1, eU1⟩ : ∃ U1, U1 = u * 4294967296 % 18446744073709551616 := ⟨_, rfl⟩
  obtain ⟨U2, eU2⟩ : ∃ U2, U2 = (U1 + x1) % 18446744073709551616 := ⟨_, rfl⟩
  obtain ⟨Z2, eZ2⟩ : ∃ Z2, Z2 = q1 * Y % 18446744073709551616 := ⟨_, rfl⟩
  have e1 : IntKind.u64.wrap ((u : Int) * 4294967296) = (U1 : Int) := w_mul (b := 4294967296) eU1.symm
  have e2 : IntKind.u64.wrap ((U1 : Int) + (x1 : Int)) = (U2 : Int) := w_add eU2.symm
  have e3 : IntKind.u64.wrap ((q1 : Int) * (Y : Int)) = (Z2 : Int) := w_mul eZ2.symm
  have e4 : IntKind.u64.wrap ((U2 : Int) - (Z2 : Int)) = (R1 : Int) := w_sub (by omega) (by omega)
  obtain ⟨a2, ea2⟩ : ∃ a2, a2 = R1 / y1 := ⟨_, rfl⟩
  obtain ⟨Z3, eZ3⟩ : ∃ Z3, Z3 = a2 * y1 := ⟨_, rfl⟩
  obtain ⟨r2, er2⟩ : ∃ r2, r2 = R1 - Z3 := ⟨_, rfl⟩
  have hZ3 : Z3 ≤ R1 := by rw [eZ3, ea2]; exact Nat.div_mul_le_self R1 y1
  have a2u : a2 ≤ 4294967297 := by rw [ea2]; exact dig_bd0 R1Y y0u y1l
  have k3 : IntKind.u64.wrap (a2 : Int) = (a2 : Int) := w_id (by omega)
  have k4 : IntKind.u64.wrap (r2 : Int) = (r2 : Int) := w_id (by have := Ye; omega)
  have f13 : IntKind.u64.wrap ((R1 : Int).tdiv (y1 : Int)) = (a2 : Int) := w_div ea2.symm (by omega)
  have f13' : (R1 : Int) / (y1 : Int) = (a2 : Int) := by rw [ea2]; exact (Int.natCast_ediv R1 y1).symm
  have f14 : IntKind.u64.wrap ((a2 : Int) * (y1 : Int)) = (Z3 : Int) := w_mul (by rw [← eZ3]; exact Nat.mod_eq_of_lt (by omega))
  have f15 : IntKind.u64.wrap ((R1 : Int) - (Z3 : Int)) = (r2 : Int) := w_sub (by omega) (by omega)
  have f15' : (R1 : Int) - (Z3 : Int) = (r2 : Int) := by omega
  have S2 := Lib.hid (show Hid (Dig R1 y1 y0 x0 a2 r2) ∧ a2 ≤ 4294967297 ∧ r2 < 4294967296 from ⟨Lib.hid (by rw [er2, eZ3, ea2]; exact dig_start (by omega) HXx0.out), a2u, by
    have := Nat.mod_lt R1 (show 0 < y1 by omega)
    have e := Nat.div_add_mod R1 y1
    rw [Nat.mul_comm, ← ea2, ← eZ3] at e
    omega⟩)
  obtain ⟨K1, eK1⟩ : ∃ K1, K1 = q1 * 4294967296 := ⟨_, rfl⟩
  obtain ⟨K2, eK2⟩ : ∃ K2, K2 = R1 * 4294967296 % 18446744073709551616 := ⟨_, rfl⟩
  obtain ⟨K3, eK3⟩ : ∃ K3, K3 = (K2 + x0) % 18446744073709551616 := ⟨_, rfl⟩
  obtain ⟨Z4, eZ4⟩ : ∃ Z4, Z4 = q0 * Y % 18446744073709551616 := ⟨_, rfl⟩
  rw [← eK1] at N64 ⊢
  obtain ⟨V1, eV1⟩ : ∃ V1, V1 = K1 + q0 := ⟨_, rfl⟩
  obtain ⟨V0, eV0⟩ : ∃ V0, V0 = R0 / P := ⟨_, rfl⟩
  rw [← eV1] at N64 ⊢
  rw [← eV0]
  have e8 : IntKind.u64.wrap ((q1 : Int) * 4294967296) = (K1 : Int) := w_mul (b := 4294967296) (by rw [← eK1]; exact Nat.mod_eq_of_lt (by omega))
  have e9 : IntKind.u64.wrap ((K1 : Int) + (q0 : Int)) = (V1 : Int) := w_add (by rw [← eV1]; exact Nat.mod_eq_of_lt N64)
  have k5 : IntKind.u64.wrap (V1 : Int) = (V1 : Int) := w_id N64
  have e9' : (K1 : Int) + (q0 : Int) = (V1 : Int) := by omega
  have e10 : IntKind.u64.wrap ((R1 : Int) * 4294967296) = (K2 : Int) := w_mul (b := 4294967296) eK2.symm
  have e11 : IntKind.u64.wrap ((K2 : Int) + (x0 : Int)) = (K3 : Int) := w_add eK3.symm
  have e12 : IntKind.u64.wrap ((q0 : Int) * (Y : Int)) = (Z4 : Int) := w_mul eZ4.symm
  have e13 : IntKind.u64.wrap ((K3 : Int) - (Z4 : Int)) = (R0 : Int) := w_sub (by omega) (by omega)
  have e14 : (R0 : Int) / (P : Int) = (V0 : Int) := by rw [eV0]; exact (Int.natCast_ediv R0 P).symm
  have HY := Lib.hid (show y1 < 4294967296 ∧ y0 < 4294967296 ∧ u < y1 * 4294967296 + y0 ∧ 0 < y1 * 4294967296 + y0 by omega)
  have HR := Lib.hid R1Y
  have i3 : (s : Int) ≤ 63 := by omega
  have i4 : 0 ≤ (s : Int) := by omega
  clear es s63 eP eQ hPQ hY1 hY2 hbl P0 lq hh ds du eY eH eLQ eL eu ey1 ey0 ex1 ex0 da1 da2 L64 Ye y1l y1u y0u uY u64 ea1 eZ1 er1 hZ1 a1u eq1 eR1 R1Y eq0 eR0 R0Y dm1 dm0 N64 eU1 eU2 eZ2 ea2 eZ3 er2 hZ3 a2u eK1 eK2 eK3 eZ4 eV1 eV0 hz h1 h2 h3
  go_enter Tryd.func22, Tryd.ntmps22
  go_wp2_with fail
  refine (LZ.out _).mono ?_
  rintro e w1 ⟨rfl, rfl⟩
  go_wp2_with fail
  go_loop [15, 16] (fun vq vr => ∃ a b : Nat, vq = .int .u64 a ∧ vr = .int .u64 b ∧ Hid (Dig u y1 y0 x1 a b) ∧ a ≤ 4294967297 ∧ b < 4294967296) (fun vq _ => (intOf vq).toNat)
  case atStart => exact ⟨a1, r1, rfl, rfl, S1.out⟩
  case round =>
    obtain ⟨a, b, rfl, rfl, D, ha, hb⟩ := hrel
    obtain ⟨Z, eZ⟩ : ∃ Z, Z = a * y0 % 18446744073709551616 := ⟨_, rfl⟩
    obtain ⟨T, eT⟩ : ∃ T, T = 4294967296 * b % 18446744073709551616 := ⟨_, rfl⟩
    obtain ⟨T2, eT2⟩ : ∃ T2, T2 = (T + x1) % 18446744073709551616 := ⟨_, rfl⟩
    have m1 : IntKind.u64.wrap ((a : Int) * (y0 : Int)) = (Z : Int) := w_mul eZ.symm
    have m2 : IntKind.u64.wrap (4294967296 * (b : Int)) = (T : Int) := w_mul (a := 4294967296) eT.symm
    have m3 : IntKind.u64.wrap ((T : Int) + (x1 : Int)) = (T2 : Int) := w_add eT2.symm
    have VT := Lib.hid (dig_test HXx1.out HY.out.2.1 hb eZ eT eT2)
    clear eZ eT eT2
    by_cases hc : 4294967296 ≤ a ∨ b * 4294967296 + x1 < a * y0
    · obtain ⟨h1, D2⟩ := dig_step D.out HY.out.2.2.1 HXx1.out hc
      obtain ⟨b', eb⟩ : ∃ b', b' = b + y1 := ⟨_, rfl⟩
      rw [← eb] at D2
      have k1 : IntKind.u64.wrap (b' : Int) = (b' : Int) := w_id (by have := HY.out.1; omega)
      have g2 : IntKind.u64.wrap ((b : Int) + (y1 : Int)) = (b' : Int) := w_add (by rw [← eb]; exact Nat.mod_eq_of_lt (by have := HY.out.1; omega))
      have g3 : (b : Int) + (y1 : Int) = (b' : Int) := by omega
      have D3 := Lib.hid D2
      have ch : 4294967296 ≤ a ∨ (a < 4294967296 ∧ Z ≤ 18446744073709551615 ∧ T2 < Z) := by
        rcases Nat.lt_or_ge a 4294967296 with g | g
        · exact Or.inr ⟨g, by have := VT.out g; omega, by have := VT.out g; rcases hc with hc | hc <;> omega⟩
        · exact Or.inl g
      clear D2 hc D VT
      by_cases hbb : b' < 4294967296
      · obtain ⟨a', ea⟩ : ∃ a', a' = a - 1 := ⟨_, rfl⟩
        rw [← ea] at D3
        have g1 : IntKind.u64.wrap ((a : Int) - 1) = (a' : Int) := by rw [IntKind.wrap_u64]; omega
        have g4 : (a : Int) - 1 = (a' : Int) := by omega
        have k2 : IntKind.u64.wrap (a' : Int) = (a' : Int) := w_id (by omega)
        have A := Lib.hid (show a' ≤ 4294967297 ∧ a' < a by omega)
        have hb3 : ¬ (4294967296 : Int) ≤ (b' : Int) := by omega
        clear ea eb h1
        rcases ch with ch | ⟨ch, _, ch2⟩
        · have ch : (4294967296 : Int) ≤ (a : Int) := by omega
          go_wp2_with fail
          go_round
          case rel => exact ⟨a', b', rfl, rfl, D3, A.out.1, hbb⟩
          case measure => simp [intOf]; have := A.out.2; omega
        · have ch3 : ¬ (4294967296 : Int) ≤ (a : Int) := by omega
          have ch4 : (T2 : Int) < (Z : Int) := by omega
          clear ch ch2
          go_wp2_with fail
          go_round
          case rel => exact ⟨a', b', rfl, rfl, D3, A.out.1, hbb⟩
          case measure => simp [intOf]; have := A.out.2; omega
      · have eq := dig_end D3.out HY.out.2.2.2 (dig_break (by omega) HY.out.2.1 (by omega))
        have g1 : IntKind.u64.wrap ((a : Int) - 1) = (q1 : Int) := by rw [Eq1.out, ← eq, IntKind.wrap_u64]; omega
        have g4 : (a : Int) - 1 = (q1 : Int) := by rw [Eq1.out, ← eq]; omega
        have k2 : IntKind.u64.wrap (q1 : Int) = (q1 : Int) := w_id (by rw [Eq1.out, ← eq]; omega)
        have hb3 : (4294967296 : Int) ≤ (b' : Int) := by omega
        clear eb h1 D3 eq
        rcases ch with ch | ⟨ch, _, ch2⟩
        · have ch : (4294967296 : Int) ≤ (a : Int) := by omega
          go_wp2_with fail
          go_loop [18, 16] (fun vq vr => ∃ a b : Nat, vq = .int .u64 a ∧ vr = .int .u64 b ∧ Hid (Dig R1 y1 y0 x0 a b) ∧ a ≤ 4294967297 ∧ b < 4294967296) (fun vq _ => (intOf vq).toNat)
          case atStart => exact ⟨a2, r2, rfl, rfl, S2.out⟩
          case round =>
            obtain ⟨a, b, rfl, rfl, D, ha, hb⟩ := hrel
            obtain ⟨Z, eZ⟩ : ∃ Z, Z = a * y0 % 18446744073709551616 := ⟨_, rfl⟩
            obtain ⟨T, eT⟩ : ∃ T, T = 4294967296 * b % 18446744073709551616 := ⟨_, rfl⟩
            obtain ⟨T2, eT2⟩ : ∃ T2, T2 = (T + x0) % 18446744073709551616 := ⟨_, rfl⟩
            have m1 : IntKind.u64.wrap ((a : Int) * (y0 : Int)) = (Z : Int) := w_mul eZ.symm
            have m2 : IntKind.u64.wrap (4294967296 * (b : Int)) = (T : Int) := w_mul (a := 4294967296) eT.symm
            have m3 : IntKind.u64.wrap ((T : Int) + (x0 : Int)) = (T2 : Int) := w_add eT2.symm
            have VT := Lib.hid (dig_test HXx0.out HY.out.2.1 hb eZ eT eT2)
            clear eZ eT eT2
            by_cases hc : 4294967296 ≤ a ∨ b * 4294967296 + x0 < a * y0
            · obtain ⟨h1, D2⟩ := dig_step D.out HR.out HXx0.out hc
              obtain ⟨b', eb⟩ : ∃ b', b' = b + y1 := ⟨_, rfl⟩
              rw [← eb] at D2
              have k1 : IntKind.u64.wrap (b' : Int) = (b' : Int) := w_id (by have := HY.out.1; omega)
              have g2 : IntKind.u64.wrap ((b : Int) + (y1 : Int)) = (b' : Int) := w_add (by rw [← eb]; exact Nat.mod_eq_of_lt (by have := HY.out.1; omega))
              have g3 : (b : Int) + (y1 : Int) = (b' : Int) := by omega
              have D3 := Lib.hid D2
              have ch : 4294967296 ≤ a ∨ (a < 4294967296 ∧ Z ≤ 18446744073709551615 ∧ T2 < Z) := by
                rcases Nat.lt_or_ge a 4294967296 with g | g
                · exact Or.inr ⟨g, by have := VT.out g; omega, by have := VT.out g; rcases hc with hc | hc <;> omega⟩
                · exact Or.inl g
              clear D2 hc D VT
              by_cases hbb : b' < 4294967296
              · obtain ⟨a', ea⟩ : ∃ a', a' = a - 1 := ⟨_, rfl⟩
                rw [← ea] at D3
                have g1 : IntKind.u64.wrap ((a : Int) - 1) = (a' : Int) := by rw [IntKind.wrap_u64]; omega
                have g4 : (a : Int) - 1 = (a' : Int) := by omega
                have k2 : IntKind.u64.wrap (a' : Int) = (a' : Int) := w_id (by omega)
                have A := Lib.hid (show a' ≤ 4294967297 ∧ a' < a by omega)
                have hb3 : ¬ (4294967296 : Int) ≤ (b' : Int) := by omega
                clear ea eb h1
                rcases ch with ch | ⟨ch, _, ch2⟩
                · have ch : (4294967296 : Int) ≤ (a : Int) := by omega
                  go_wp2_with fail
                  go_round
                  case rel => exact ⟨a', b', rfl, rfl, D3, A.out.1, hbb⟩
                  case measure => simp [intOf]; have := A.out.2; omega
                · have ch3 : ¬ (4294967296 : Int) ≤ (a : Int) := by omega
                  have ch4 : (T2 : Int) < (Z : Int) := by omega
                  clear ch ch2
                  go_wp2_with fail
                  go_round
                  case rel => exact ⟨a', b', rfl, rfl, D3, A.out.1, hbb⟩
                  case measure => simp [intOf]; have := A.out.2; omega
              · have eq := dig_end D3.out HY.out.2.2.2 (dig_break (by omega) HY.out.2.1 (by omega))
                have g1 : IntKind.u64.wrap ((a : Int) - 1) = (q0 : Int) := by rw [Eq0.out, ← eq, IntKind.wrap_u64]; omega
                have g4 : (a : Int) - 1 = (q0 : Int) := by rw [Eq0.out, ← eq]; omega
                have k2 : IntKind.u64.wrap (q0 : Int) = (q0 : Int) := w_id (by rw [Eq0.out, ← eq]; omega)
                have hb3 : (4294967296 : Int) ≤ (b' : Int) := by omega
                clear eb h1 D3 eq
                rcases ch with ch | ⟨ch, _, ch2⟩
                · have ch : (4294967296 : Int) ≤ (a : Int) := by omega
                  go_wp2_with fail
                  go_ret2
                  exact ⟨rfl, rfl⟩
                · have ch3 : ¬ (4294967296 : Int) ≤ (a : Int) := by omega
                  have ch4 : (T2 : Int) < (Z : Int) := by omega
                  clear ch ch2
                  go_wp2_with fail
                  go_ret2
                  exact ⟨rfl, rfl⟩
            · have hlt : a < 4294967296 := by omega
              have eq := dig_end D.out HY.out.2.2.2 (by omega)
              rw [← Eq0.out] at eq
              subst eq
              have ch3 : ¬ (4294967296 : Int) ≤ (a : Int) := by omega
              have ch4 : ¬ (T2 : Int) < (Z : Int) := by have := VT.out hlt; omega
              clear hc hlt D VT
              go_wp2_with fail
              go_ret2
              exact ⟨rfl, rfl⟩
        · have ch3 : ¬ (4294967296 : Int) ≤ (a : Int) := by omega
          have ch4 : (T2 : Int) < (Z : Int) := by omega
          clear ch ch2
          go_wp2_with fail
          go_loop [18, 16] (fun vq vr => ∃ a b : Nat, vq = .int .u64 a ∧ vr = .int .u64 b ∧ Hid (Dig R1 y1 y0 x0 a b) ∧ a ≤ 4294967297 ∧ b < 4294967296) (fun vq _ => (intOf vq).toNat)
          case atStart => exact ⟨a2, r2, rfl, rfl, S2.out⟩
          case round =>
            obtain ⟨a, b, rfl, rfl, D, ha, hb⟩ := hrel
            obtain ⟨Z, eZ⟩ : ∃ Z, Z = a * y0 % 18446744073709551616 := ⟨_, rfl⟩
            obtain ⟨T, eT⟩ : ∃ T, T = 4294967296 * b % 18446744073709551616 := ⟨_, rfl⟩
            obtain ⟨T2, eT2⟩ : ∃ T2, T2 = (T + x0) % 18446744073709551616 := ⟨_, rfl⟩
            have m1 : IntKind.u64.wrap ((a : Int) * (y0 : Int)) = (Z : Int) := w_mul eZ.symm
            have m2 : IntKind.u64.wrap (4294967296 * (b : Int)) = (T : Int) := w_mul (a := 4294967296) eT.symm
            have m3 : IntKind.u64.wrap ((T : Int) + (x0 : Int)) = (T2 : Int) := w_add eT2.symm
            have VT := Lib.hid (dig_test HXx0.out HY.out.2.1 hb eZ eT eT2)
            clear eZ eT eT2
            by_cases hc : 4294967296 ≤ a ∨ b * 4294967296 + x0 < a * y0
            · obtain ⟨h1, D2⟩ := dig_step D.out HR.out HXx0.out hc
              obtain ⟨b', eb⟩ : ∃ b', b' = b + y1 := ⟨_, rfl⟩
              rw [← eb] at D2
              have k1 : IntKind.u64.wrap (b' : Int) = (b' : Int) := w_id (by have := HY.out.1; omega)
              have g2 : IntKind.u64.wrap ((b : Int) + (y1 : Int)) = (b' : Int) := w_add (by rw [← eb]; exact Nat.mod_eq_of_lt (by have := HY.out.1; omega))
              have g3 : (b : Int) + (y1 : Int) = (b' : Int) := by omega
              have D3 := Lib.hid D2
              have ch : 4294967296 ≤ a ∨ (a < 4294967296 ∧ Z ≤ 18446744073709551615 ∧ T2 < Z) := by
                rcases Nat.lt_or_ge a 4294967296 with g | g
                · exact Or.inr ⟨g, by have := VT.out g; omega, by have := VT.out g; rcases hc with hc | hc <;> omega⟩
                · exact Or.inl g
              clear D2 hc D VT
              by_cases hbb : b' < 4294967296
              · obtain ⟨a', ea⟩ : ∃ a', a' = a - 1 := ⟨_, rfl⟩
                rw [← ea] at D3
                have g1 : IntKind.u64.wrap ((a : Int) - 1) = (a' : Int) := by rw [IntKind.wrap_u64]; omega
                have g4 : (a : Int) - 1 = (a' : Int) := by omega
                have k2 : IntKind.u64.wrap (a' : Int) = (a' : Int) := w_id (by omega)
                have A := Lib.hid (show a' ≤ 4294967297 ∧ a' < a by omega)
                have hb3 : ¬ (4294967296 : Int) ≤ (b' : Int) := by omega
                clear ea eb h1
                rcases ch with ch | ⟨ch, _, ch2⟩
                · have ch : (4294967296 : Int) ≤ (a : Int) := by omega
                  go_wp2_with fail
                  go_round
                  case rel => exact ⟨a', b', rfl, rfl, D3, A.out.1, hbb⟩
                  case measure => simp [intOf]; have := A.out.2; omega
                · have ch3 : ¬ (4294967296 : Int) ≤ (a : Int) := by omega
                  have ch4 : (T2 : Int) < (Z : Int) := by omega
                  clear ch ch2
                  go_wp2_with fail
                  go_round
                  case rel => exact ⟨a', b', rfl, rfl, D3, A.out.1, hbb⟩
                  case measure => simp [intOf]; have := A.out.2; omega
              · have eq := dig_end D3.out HY.out.2.2.2 (dig_break (by omega) HY.out.2.1 (by omega))
                have g1 : IntKind.u64.wrap ((a : Int) - 1) = (q0 : Int) := by rw [Eq0.out, ← eq, IntKind.wrap_u64]; omega
                have g4 : (a : Int) - 1 = (q0 : Int) := by rw [Eq0.out, ← eq]; omega
                have k2 : IntKind.u64.wrap (q0 : Int) = (q0 : Int) := w_id (by rw [Eq0.out, ← eq]; omega)
                have hb3 : (4294967296 : Int) ≤ (b' : Int) := by omega
                clear eb h1 D3 eq
                rcases ch with ch | ⟨ch, _, ch2⟩
                · have ch : (4294967296 : Int) ≤ (a : Int) := by omega
                  go_wp2_with fail
                  go_ret2
                  exact ⟨rfl, rfl⟩
                · have ch3 : ¬ (4294967296 : Int) ≤ (a : Int) := by omega
                  have ch4 : (T2 : Int) < (Z : Int) := by omega
                  clear ch ch2
                  go_wp2_with fail
                  go_ret2
                  exact ⟨rfl, rfl⟩
            · have hlt : a < 4294967296 := by omega
              have eq := dig_end D.out HY.out.2.2.2 (by omega)
              rw [← Eq0.out] at eq
              subst eq
              have ch3 : ¬ (4294967296 : Int) ≤ (a : Int) := by omega
              have ch4 : ¬ (T2 : Int) < (Z : Int) := by have := VT.out hlt; omega
              clear hc hlt D VT
              go_wp2_with fail
              go_ret2
              exact ⟨rfl, rfl⟩
    · have hlt : a < 4294967296 := by omega
      have eq := dig_end D.out HY.out.2.2.2 (by omega)
      rw [← Eq1.out] at eq
      subst eq
      have ch3 : ¬ (4294967296 : Int) ≤ (a : Int) := by omega
      have ch4 : ¬ (T2 : Int) < (Z : Int) := by have := VT.out hlt; omega
      clear hc hlt D VT
      go_wp2_with fail
      go_loop [18, 16] (fun vq vr => ∃ a b : Nat, vq = .int .u64 a ∧ vr = .int .u64 b ∧ Hid (Dig R1 y1 y0 x0 a b) ∧ a ≤ 4294967297 ∧ b < 4294967296) (fun vq _ => (intOf vq).toNat)
      case atStart => exact ⟨a2, r2, rfl, rfl, S2.out⟩
      case round =>
        obtain ⟨a, b, rfl, rfl, D, ha, hb⟩ := hrel
        obtain ⟨Z, eZ⟩ : ∃ Z, Z = a * y0 % 18446744073709551616 := ⟨_, rfl⟩
        obtain ⟨T, eT⟩ : ∃ T, T = 4294967296 * b % 18446744073709551616 := ⟨_, rfl⟩
        obtain ⟨T2, eT2⟩ : ∃ T2, T2 = (T + x0) % 18446744073709551616 := ⟨_, rfl⟩
        have m1 : IntKind.u64.wrap ((a : Int) * (y0 : Int)) = (Z : Int) := w_mul eZ.symm
        have m2 : IntKind.u64.wrap (4294967296 * (b : Int)) = (T : Int) := w_mul (a := 4294967296) eT.symm
        have m3 : IntKind.u64.wrap ((T : Int) + (x0 : Int)) = (T2 : Int) := w_add eT2.symm
        have VT := Lib.hid (dig_test HXx0.out HY.out.2.1 hb eZ eT eT2)
        clear eZ eT eT2
        by_cases hc : 4294967296 ≤ a ∨ b * 4294967296 + x0 < a * y0
        · obtain ⟨h1, D2⟩ := dig_step D.out HR.out HXx0.out hc
          obtain ⟨b', eb⟩ : ∃ b', b' = b + y1 := ⟨_, rfl⟩
          rw [← eb] at D2
          have k1 : IntKind.u64.wrap (b' : Int) = (b' : Int) := w_id (by have := HY.out.1; omega)
          have g2 : IntKind.u64.wrap ((b : Int) + (y1 : Int)) = (b' : Int) := w_add (by rw [← eb]; exact Nat.mod_eq_of_lt (by have := HY.out.1; omega))
          have g3 : (b : Int) + (y1 : Int) = (b' : Int) := by omega
          have D3 := Lib.hid D2
          have ch : 4294967296 ≤ a ∨ (a < 4294967296 ∧ Z ≤ 18446744073709551615 ∧ T2 < Z) := by
            rcases Nat.lt_or_ge a 4294967296 with g | g
            · exact Or.inr ⟨g, by have := VT.out g; omega, by have := VT.out g; rcases hc with hc | hc <;> omega⟩
            · exact Or.inl g
          clear D2 hc D VT
          by_cases hbb : b' < 4294967296
          · obtain ⟨a', ea⟩ : ∃ a', a' = a - 1 := ⟨_, rfl⟩
            rw [← ea] at D3
            have g1 : IntKind.u64.wrap ((a : Int) - 1) = (a' : Int) := by rw [IntKind.wrap_u64]; omega
            have g4 : (a : Int) - 1 = (a' : Int) := by omega
            have k2 : IntKind.u64.wrap (a' : Int) = (a' : Int) := w_id (by omega)
            have A := Lib.hid (show a' ≤ 4294967297 ∧ a' < a by omega)
            have hb3 : ¬ (4294967296 : Int) ≤ (b' : Int) := by omega
            clear ea eb h1
            rcases ch with ch | ⟨ch, _, ch2⟩
            · have ch : (4294967296 : Int) ≤ (a : Int) := by omega
              go_wp2_with fail
              go_round
              case rel => exact ⟨a', b', rfl, rfl, D3, A.out.1, hbb⟩
              case measure => simp [intOf]; have := A.out.2; omega
            · have ch3 : ¬ (4294967296 : Int) ≤ (a : Int) := by omega
              have ch4 : (T2 : Int) < (Z : Int) := by omega
              clear ch ch2
              go_wp2_with fail
              go_round
              case rel => exact ⟨a', b', rfl, rfl, D3, A.out.1, hbb⟩
              case measure => simp [intOf]; have := A.out.2; omega
          · have eq := dig_end D3.out HY.out.2.2.2 (dig_break (by omega) HY.out.2.1 (by omega))
            have g1 : IntKind.u64.wrap ((a : Int) - 1) = (q0 : Int) := by rw [Eq0.out, ← eq, IntKind.wrap_u64]; omega
            have g4 : (a : Int) - 1 = (q0 : Int) := by rw [Eq0.out, ← eq]; omega
            have k2 : IntKind.u64.wrap (q0 : Int) = (q0 : Int) := w_id (by rw [Eq0.out, ← eq]; omega)
            have hb3 : (4294967296 : Int) ≤ (b' : Int) := by omega
            clear eb h1 D3 eq
            rcases ch with ch | ⟨ch, _, ch2⟩
            · have ch : (4294967296 : Int) ≤ (a : Int) := by omega
              go_wp2_with fail
              go_ret2
              exact ⟨rfl, rfl⟩
            · have ch3 : ¬ (4294967296 : Int) ≤ (a : Int) := by omega
              have ch4 : (T2 : Int) < (Z : Int) := by omega
              clear ch ch2
              go_wp2_with fail
              go_ret2
              exact ⟨rfl, rfl⟩
        · have hlt : a < 4294967296 := by omega
          have eq := dig_end D.out HY.out.2.2.2 (by omega)
          rw [← Eq0.out] at eq
          subst eq
          have ch3 : ¬ (4294967296 : Int) ≤ (a : Int) := by omega
          have ch4 : ¬ (T2 : Int) < (Z : Int) := by have := VT.out hlt; omega
          clear hc hlt D VT
          go_wp2_with fail
          go_ret2
          exact ⟨rfl, rfl⟩
/-- math/bits.Div64: the quotient and the remainder of a number of two words. -/
theorem div_any (hi lo y : Nat) (w : World) (h1 : hi < y) (h2 : lo < 18446744073709551616) (h3 : y < 18446744073709551616) :
    Calls Tryd.prog 22 #[.int .u64 hi, .int .u64 lo, .int .u64 y] w fun e w' => e = .returned (.tuple #[.int .u64 (((hi * 18446744073709551616 + lo) / y : Nat) : Int), .int .u64 (((hi * 18446744073709551616 + lo) % y : Nat) : Int)]) ∧ Below w.heap.size w w' := by
  rcases Nat.eq_zero_or_pos hi with h | h
  · subst h
    rw [Nat.zero_mul, Nat.zero_add]
    exact div_low lo y w (by omega) h2 h3
  · exact (div_high hi lo y w h h1 h2 h3).mono fun _ _ g => ⟨g.1, by rw [← g.2]; exact Below.refl _ _⟩
end Dv
end Go.Proofs.YtmgehfakcnmdnaaDoor
