/-
  What the angle of a text is: hours and degrees with parts.
-/
import Derived.Test.YtmafjoboikbnnaaDoorPParts2
namespace Go.Proofs.YtmafjoboikbnnaaDoor
namespace Ap
open Go.RowKit Lw

theorem numV_bd (l : List UInt8) : -1 ≤ numV l ∧ numV l < 10 ^ l.length := by
  unfold numV
  have p : (0 : Int) < 10 ^ l.length := Int.pow_pos (by omega)
  split
  · rename_i h
    have := numL_bd l l.length (Nat.le_refl _) (by rw [List.take_length]; exact h)
    rw [List.take_length] at this
    omega
  · omega
theorem numV_6 {l : List UInt8} (h : l.length ≤ 6) : -1 ≤ numV l ∧ numV l ≤ 999999 := by
  have a := numV_bd l
  have : ∀ k : Nat, k ≤ 6 → (10 : Int) ^ k ≤ 1000000 := by decide
  have := this _ h
  omega
theorem two_bd (s : ByteArray) (i : Nat) : -1 ≤ two s i ∧ two s i ≤ 99 := by
  have a := numV_bd ((s.extract i (i + 2)).data.toList)
  have b : ((s.extract i (i + 2)).data.toList).length ≤ 2 := by simp; omega
  have : ∀ k : Nat, k ≤ 2 → (10 : Int) ^ k ≤ 100 := by decide
  have := this _ b
  unfold two
  omega
theorem rest_size {s : ByteArray} (h : s.size ≤ 15) : (restOf s).size ≤ 6 := by
  unfold restOf; split
  · simp
  · simp; omega
theorem rest_size_i {s : ByteArray} (h : s.size ≤ 15) : ((restOf s).data.toList).length ≤ 6 := by
  have := rest_size h
  simpa using this
/-- A whole number of seconds. -/
def secs (s : ByteArray) : Int := two s 0 * 3600 + two s 3 * 60 + two s 6
/-- The angle of a text whose second is so many micro-arcseconds. -/
def angV (s : ByteArray) (u : Int) : Int := secs s * u + numV (restOf s).data.toList * (u / tenI (restOf s).size)
theorem div_bd {u t : Int} (hu : 0 ≤ u) (ht : 1 ≤ t) : 0 ≤ u / t ∧ u / t ≤ u := ⟨Int.ediv_nonneg hu (by omega), Int.ediv_le_self _ hu⟩
theorem mul_bd {a b m n : Int} (h0 : 0 ≤ a) (h1 : a ≤ m) (g0 : 0 ≤ b) (g1 : b ≤ n) : 0 ≤ a * b ∧ a * b ≤ m * n :=
  ⟨Int.mul_nonneg h0 g0, Int.le_trans (Int.mul_le_mul_of_nonneg_right h1 g0) (Int.mul_le_mul_of_nonneg_left g1 (by omega))⟩
/-- What is known of the numbers of a text: letters in place of them. -/
theorem valid_letters {s : ByteArray} (h : validP s) (u : Int) (hu : 0 ≤ u) (hu2 : u ≤ 15000000) : ∃ V Q T : Int,
    numV (restOf s).data.toList = V ∧ u.tdiv (tenI (restOf s).size) = Q ∧ tenI (restOf s).size = T ∧ 0 ≤ V ∧ V ≤ 999999 ∧ 1 ≤ T ∧ 0 ≤ Q ∧ Q ≤ 15000000 ∧ 0 ≤ V * Q ∧ V * Q ≤ 14999985000000 ∧
    (restOf s).size ≤ 6 ∧ (0 ≤ two s 0 ∧ two s 0 ≤ 99) ∧ (0 ≤ two s 3 ∧ two s 3 ≤ 59) ∧ (0 ≤ two s 6 ∧ two s 6 ≤ 59) ∧
    Hid (angV s u = (two s 0 * 3600 + two s 3 * 60 + two s 6) * u + V * Q) := by
  obtain ⟨hs, h0, h3, h6, hr⟩ := h
  have h15 := hs.2.2.2.2.1
  have z := rest_size h15
  have v := numV_6 (rest_size_i h15)
  have t := (tenI_bd (restOf s).size (by omega)).1
  have e : u.tdiv (tenI (restOf s).size) = u / tenI (restOf s).size := Int.tdiv_eq_ediv_of_nonneg hu
  have q := div_bd hu t
  have p := mul_bd (a := numV (restOf s).data.toList) (b := u / tenI (restOf s).size) (m := 999999) (n := 15000000) hr v.2 q.1 (by omega)
  exact ⟨_, _, _, rfl, rfl, rfl, hr, v.2, t, by omega, by omega, by rw [e]; exact p.1, by rw [e]; exact p.2, z, ⟨h0, (two_bd s 0).2⟩, h3, h6, Lib.hid (by rw [e]; rfl)⟩
def RaIs (s : ByteArray) (v e : Int) : Prop := (validP s ∧ two s 0 ≤ 23 ∧ v = angV s 15000000 ∧ e = 0) ∨ (¬ (validP s ∧ two s 0 ≤ 23) ∧ v = 0 ∧ e = 12)
theorem RaIs.det {s : ByteArray} {v e v' e' : Int} (h : RaIs s v e) (g : RaIs s v' e') : v = v' ∧ e = e' := by
  rcases h with ⟨h1, h2, h3, h4⟩ | ⟨h1, h2, h3⟩ <;> rcases g with ⟨g1, g2, g3, g4⟩ | ⟨g1, g2, g3⟩
  · exact ⟨by rw [h3, g3], by rw [h4, g4]⟩
  · exact absurd ⟨h1, h2⟩ g1
  · exact absurd ⟨g1, g2⟩ h1
  · exact ⟨by rw [h2, g2], by rw [h3, g3]⟩
/-- The text of a declination: a sign, and the rest. -/
def signP (s : ByteArray) : Prop := 0 < s.size ∧ (((s.get! 0).toNat : Int) = 43 ∨ ((s.get! 0).toNat : Int) = 45)
def tailOf (s : ByteArray) : ByteArray := s.extract 1 s.size
def decOk (s : ByteArray) : Prop := signP s ∧ validP (tailOf s) ∧ two (tailOf s) 0 ≤ 90 ∧ angV (tailOf s) 1000000 ≤ 324000000000
def DecIs (s : ByteArray) (v e : Int) : Prop := (decOk s ∧ v = (if ((s.get! 0).toNat : Int) = 45 then -angV (tailOf s) 1000000 else angV (tailOf s) 1000000) ∧ e = 0) ∨ (¬ decOk s ∧ v = 0 ∧ e = 12)
theorem DecIs.det {s : ByteArray} {v e v' e' : Int} (h : DecIs s v e) (g : DecIs s v' e') : v = v' ∧ e = e' := by
  rcases h with ⟨h1, h3, h4⟩ | ⟨h1, h2, h3⟩ <;> rcases g with ⟨g1, g3, g4⟩ | ⟨g1, g2, g3⟩
  · exact ⟨by rw [h3, g3], by rw [h4, g4]⟩
  · exact absurd h1 g1
  · exact absurd g1 h1
  · exact ⟨by rw [h2, g2], by rw [h3, g3]⟩
end Ap
end Go.Proofs.YtmafjoboikbnnaaDoor
