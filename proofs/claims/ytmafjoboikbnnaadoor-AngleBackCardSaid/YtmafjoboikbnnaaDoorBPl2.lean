/-
  The angle of a text differs from the angle by at most half a unit of the last digit.
-/
import Derived.Test.YtmafjoboikbnnaaDoorBPl
namespace Go.Proofs.YtmafjoboikbnnaaDoor
namespace At
open Go.RowKit Lw Ap

theorem rnd_half (m u : Nat) (hu : 1 ≤ u) : 2 * (((rndN m u : Nat) : Int) * u - m) ≤ u ∧ -(u : Int) ≤ 2 * (((rndN m u : Nat) : Int) * u - m) := by
  have h := rndN_eq m u
  have hd := Int.emod_add_mul_ediv (m : Int) (u : Int)
  have r0 := Int.emod_nonneg (m : Int) (show (u : Int) ≠ 0 by omega)
  have r1 := Int.emod_lt_of_pos (m : Int) (show (0 : Int) < u by omega)
  rw [h]
  unfold rndI
  generalize (m : Int) % (u : Int) = r at *
  generalize (m : Int) / (u : Int) = q at *
  split
  · rename_i g
    have e : (q + 1) * (u : Int) = (u : Int) * q + u := by rw [Int.add_mul, Int.one_mul, Int.mul_comm]
    rw [e]
    rcases g with g | ⟨g, _⟩ <;> omega
  · rename_i g
    have e : (q + 0) * (u : Int) = (u : Int) * q := by rw [Int.add_zero, Int.mul_comm]
    rw [e]
    have : ¬ ((u : Int) < 2 * r) := fun x => g (Or.inl x)
    omega
theorem units : ∀ d : Nat, d ≤ 6 → 15000000 / 10 ^ d * 10 ^ d = 15000000 ∧ 1000000 / 10 ^ d * 10 ^ d = 1000000 ∧ 1 ≤ 15000000 / 10 ^ d ∧ 1 ≤ 1000000 / 10 ^ d ∧ 15000000 / 10 ^ d = 15 * (1000000 / 10 ^ d) ∧ 1000000 / 10 ^ d ≤ 1000000 := by decide
/-- The text of a right ascension is read. -/
theorem ra_back (a : Int) (d : Nat) (hd : d ≤ 6) : ∃ v : Int, RaIs ⟨(raL a d).toArray⟩ v 0 ∧ -9223372036854775808 ≤ v ∧ v ≤ 9223372036854775807 ∧
    2 * Pl.dif v a ≤ 15 * ((1000000 / 10 ^ d : Nat) : Int) ∧ -(15 * ((1000000 / 10 ^ d : Nat) : Int)) ≤ 2 * Pl.dif v a := by
  obtain ⟨hu, _, u1, _, u15, uM⟩ := units d hd
  have hm := Int.emod_nonneg a (show (1296000000000 : Int) ≠ 0 by omega)
  have hm2 := Int.emod_lt_of_pos a (show (0 : Int) < 1296000000000 by omega)
  obtain ⟨m, em⟩ : ∃ m : Nat, (a % 1296000000000).toNat = m := ⟨_, rfl⟩
  have em' : a % 1296000000000 = (m : Int) := by omega
  have hp : 1 ≤ 10 ^ d := Nat.pow_pos (by omega)
  unfold raL
  rw [em]
  rw [u15] at u1 hu
  have hh := rnd_half m (15 * (1000000 / 10 ^ d)) u1
  rw [u15]
  generalize 1000000 / 10 ^ d = e at *
  generalize rndN m (15 * e) = R at *
  generalize hp10 : 10 ^ d = p at *
  have hN := Nat.mod_lt R (show 0 < 86400 * p by omega)
  have hR := Nat.div_add_mod R (86400 * p)
  obtain ⟨k, ek⟩ : ∃ k, R / (86400 * p) = k := ⟨_, rfl⟩
  obtain ⟨N, eN⟩ : ∃ N, R % (86400 * p) = N := ⟨_, rfl⟩
  rw [ek, eN] at hR
  rw [eN] at hN ⊢
  have hNp : N / p < 86400 := Nat.div_lt_of_lt_mul (by rw [Nat.mul_comm]; exact hN)
  have C := clock_reads N d hd (by rw [hp10]; omega)
  rw [hp10] at C
  obtain ⟨c1, c2, c3⟩ := C
  have c4 := c3 (15 * e)
  rw [hu] at c4
  have hT : 86400 * p * (15 * e) = 1296000000000 := by
    have : 86400 * p * (15 * e) = 86400 * (15 * e * p) := by rw [Nat.mul_assoc, Nat.mul_comm p]
    rw [this, hu]
  have eR : R * (15 * e) = 1296000000000 * k + N * (15 * e) := by
    rw [← hR, Nat.add_mul, ← hT]
    rw [Nat.mul_assoc (86400 * p) k, Nat.mul_comm k, ← Nat.mul_assoc]
  have bN : N * (15 * e) ≤ 1296000000000 := by
    rw [← hT]; exact Nat.mul_le_mul_right _ (Nat.le_of_lt hN)
  refine ⟨((N * (15 * e) : Nat) : Int), Or.inl ⟨c1, by rw [c2]; omega, c4.symm, rfl⟩, by omega, by omega, ?_⟩
  have eR' : ((R : Nat) : Int) * ((15 * e : Nat) : Int) = 1296000000000 * (k : Int) + ((N * (15 * e) : Nat) : Int) := by
    have := congrArg (fun x : Nat => (x : Int)) eR
    simpa using this
  rw [eR'] at hh
  generalize ((N * (15 * e) : Nat) : Int) = V at *
  have hdif : Pl.dif V a = 1296000000000 * (k : Int) + V - m := by
    have e1 : (V - a) % 1296000000000 = (1296000000000 * (k : Int) + V - m) % 1296000000000 := by omega
    unfold Pl.dif
    rw [e1]
    generalize 1296000000000 * (k : Int) + V - m = y at *
    have : (15 * e : Nat) ≤ 15000000 := by omega
    split <;> omega
  rw [hdif]
  omega
theorem deg_mod (a : Int) : -324000000000 ≤ a.tmod 324000000001 ∧ a.tmod 324000000001 ≤ 324000000000 := by
  have h := Pl.tmod_bd a 324000000001 (by omega)
  omega
/-- The text of a declination is read. -/
theorem dec_back (c : Int) (d : Nat) (hd : d ≤ 6) (h0 : -324000000000 ≤ c) (h1 : c ≤ 324000000000) : ∃ v : Int, DecIs ⟨(decL c d).toArray⟩ v 0 ∧ -324000000000 ≤ v ∧ v ≤ 324000000000 ∧
    2 * (v - c) ≤ ((1000000 / 10 ^ d : Nat) : Int) ∧ -((1000000 / 10 ^ d : Nat) : Int) ≤ 2 * (v - c) := by
  obtain ⟨_, hu, _, u1, _, uM⟩ := units d hd
  have hp : 1 ≤ 10 ^ d := Nat.pow_pos (by omega)
  obtain ⟨m, em⟩ : ∃ m : Nat, c.natAbs = m := ⟨_, rfl⟩
  have hh := rnd_half m (1000000 / 10 ^ d) u1
  unfold decL
  rw [em]
  generalize 1000000 / 10 ^ d = e at *
  generalize rndN m e = R at *
  have bR : R * e ≤ 324000000000 := by
    have ek : 324000000000 = 324000 * 10 ^ d * e := by
      rw [Nat.mul_assoc, Nat.mul_comm (10 ^ d), hu]
    by_cases g : R ≤ 324000 * 10 ^ d
    · rw [ek]; exact Nat.mul_le_mul_right _ g
    · exfalso
      have : (324000 * 10 ^ d + 1) * e ≤ R * e := Nat.mul_le_mul_right _ (by omega)
      rw [Nat.add_mul, ← ek] at this
      have e2 : ((R * e : Nat) : Int) = (R : Int) * (e : Int) := by simp
      rw [← e2] at hh
      omega
  have bR2 : R ≤ 324000 * 10 ^ d := by
    have ek : 324000000000 = 324000 * 10 ^ d * e := by
      rw [Nat.mul_assoc, Nat.mul_comm (10 ^ d), hu]
    rw [ek] at bR
    exact Nat.le_of_mul_le_mul_right bR (by omega)
  have hRp : R / 10 ^ d ≤ 324000 := Nat.div_le_of_le_mul (by rw [Nat.mul_comm]; exact bR2)
  obtain ⟨c1, c2, c3⟩ := clock_reads R d hd (by omega)
  have c4 := c3 e
  rw [hu] at c4
  have t : ∀ s : UInt8, tailOf ⟨(s :: clockL R d).toArray⟩ = ⟨(clockL R d).toArray⟩ := fun s => tail_mk s _
  have ok : ∀ s : UInt8, (((s.toNat : Nat) : Int) = 43 ∨ ((s.toNat : Nat) : Int) = 45) → decOk ⟨(s :: clockL R d).toArray⟩ := fun s hs =>
    ⟨⟨by rw [size_mk]; simp, by rw [get0]; exact hs⟩, by rw [t]; exact c1, by rw [t, c2]; omega, by rw [t]; rw [show ((1000000 : Int)) = ((1000000 : Nat) : Int) from rfl, c4]; omega⟩
  have e2 : ((R * e : Nat) : Int) = (R : Int) * (e : Int) := by simp
  rw [← e2] at hh
  have av : angV ⟨(clockL R d).toArray⟩ 1000000 = ((R * e : Nat) : Int) := c4
  by_cases hn : c < 0
  · rw [if_pos hn]
    refine ⟨-((R * e : Nat) : Int), Or.inl ⟨ok 45 (Or.inr rfl), ?_, rfl⟩, by omega, by omega, by omega, by omega⟩
    rw [t, av, get0, if_pos (show (((45 : UInt8).toNat : Nat) : Int) = 45 from rfl)]
  · rw [if_neg hn]
    refine ⟨((R * e : Nat) : Int), Or.inl ⟨ok 43 (Or.inl rfl), ?_, rfl⟩, by omega, by omega, by omega, by omega⟩
    rw [t, av, get0, if_neg (by decide)]
end At
end Go.Proofs.YtmafjoboikbnnaaDoor
