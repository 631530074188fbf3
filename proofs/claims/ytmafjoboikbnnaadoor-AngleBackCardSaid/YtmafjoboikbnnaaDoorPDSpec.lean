/-
  What the angle of a text of degrees is.
-/
import Derived.Test.YtmafjoboikbnnaaDoorPRRa
namespace Go.Proofs.YtmafjoboikbnnaaDoor
namespace Ap
open Go.RowKit Lw

theorem takeWhile_len (p : UInt8 → Bool) : ∀ (l : List UInt8) (k : Nat), k ≤ l.length → (∀ j (hj : j < l.length), j < k → p l[j] = true) → (∀ h : k < l.length, p l[k] = false) → (l.takeWhile p).length = k
  | [], k, hk, _, _ => by simp at hk; simp [hk]
  | a :: l, 0, _, _, h => by
    have := h (by simp)
    simp only [List.getElem_cons_zero] at this
    simp [List.takeWhile_cons, this]
  | a :: l, k + 1, hk, h, he => by
    have h0 := h 0 (by simp) (by omega)
    simp only [List.getElem_cons_zero] at h0
    rw [List.takeWhile_cons, if_pos h0, List.length_cons, takeWhile_len p l k (by simpa using hk) (fun j hj hk' => by have := h (j + 1) (by simpa using hj) (by omega); rwa [List.getElem_cons_succ] at this) (fun h' => by have := he (by simpa using h'); rwa [List.getElem_cons_succ] at this)]
/-- Where the point stands, or the end. -/
def ptOf (t : ByteArray) : Nat := (t.data.toList.takeWhile (fun c => decide (¬ ((c.toNat : Nat) : Int) = 46))).length
theorem pt_eq {t : ByteArray} {k : Nat} (hk : k ≤ t.size) (h : ∀ j (hj : j < t.size), j < k → ¬ ((t[j].toNat : Nat) : Int) = 46) (he : ∀ h : k < t.size, ((t[k].toNat : Nat) : Int) = 46) : ptOf t = k := by
  refine takeWhile_len _ _ k (by simpa using hk) (fun j hj hjk => ?_) (fun hlt => ?_)
  · have := h j (by simpa using hj) hjk
    exact decide_eq_true this
  · have := he (by simpa using hlt)
    exact decide_eq_false (not_not_intro this)
def negP (s : ByteArray) : Prop := 0 < s.size ∧ (((s.get! 0).toNat : Nat) : Int) = 45
instance (s : ByteArray) : Decidable (negP s) := by unfold negP; infer_instance
def negB (s : ByteArray) : Bool := decide (negP s)
def bodyOf (s : ByteArray) : ByteArray := if negP s then s.extract 1 s.size else s
def formP (t : ByteArray) (p : Nat) : Prop := p + 1 < t.size ∧ 1 ≤ p ∧ p ≤ 3 ∧ t.size ≤ p + 10 ∧ (p ≤ 1 ∨ ¬ (((t.get! 0).toNat : Nat) : Int) = 48)
def numP (neg : Bool) (D F : Int) : Prop := 0 ≤ D ∧ 0 ≤ F ∧ D ≤ 360 ∧ (D ≠ 360 ∨ F = 0) ∧ (neg = false ∨ D ≠ 0 ∨ F ≠ 0)
def fracI (F : Int) (n : Nat) : Int := rndI (F * (3600000000 / Nat.gcd (10 ^ n) 3600000000 : Nat)) (10 ^ n / Nat.gcd (10 ^ n) 3600000000 : Nat)
def sgnI (neg : Bool) (x : Int) : Int := if neg then -x else x
def degD (t : ByteArray) (p : Nat) : Int := numV (t.extract 0 p).data.toList
def degF (t : ByteArray) (p : Nat) : Int := numV (t.extract (p + 1) t.size).data.toList
def DegT (neg : Bool) (t : ByteArray) (p : Nat) (v e : Int) : Prop :=
  (formP t p ∧ numP neg (degD t p) (degF t p) ∧ v = sgnI neg (degD t p * 3600000000 + fracI (degF t p) (t.size - (p + 1))) ∧ e = 0) ∨ (¬ (formP t p ∧ numP neg (degD t p) (degF t p)) ∧ v = 0 ∧ e = 12)
theorem DegT.det {neg : Bool} {t : ByteArray} {p : Nat} {v e v' e' : Int} (h : DegT neg t p v e) (g : DegT neg t p v' e') : v = v' ∧ e = e' := by
  rcases h with ⟨h1, h2, h3, h4⟩ | ⟨h1, h2, h3⟩ <;> rcases g with ⟨g1, g2, g3, g4⟩ | ⟨g1, g2, g3⟩
  · exact ⟨by rw [h3, g3], by rw [h4, g4]⟩
  · exact absurd ⟨h1, h2⟩ g1
  · exact absurd ⟨g1, g2⟩ h1
  · exact ⟨by rw [h2, g2], by rw [h3, g3]⟩
theorem numV_9 {l : List UInt8} (h : l.length ≤ 9) : -1 ≤ numV l ∧ numV l ≤ 999999999 := by
  have a := numV_bd l
  have : ∀ k : Nat, k ≤ 9 → (10 : Int) ^ k ≤ 1000000000 := by decide
  have := this _ h
  omega
theorem numV_3 {l : List UInt8} (h : l.length ≤ 3) : -1 ≤ numV l ∧ numV l ≤ 999 := by
  have a := numV_bd l
  have : ∀ k : Nat, k ≤ 3 → (10 : Int) ^ k ≤ 1000 := by decide
  have := this _ h
  omega
theorem degD_bd (t : ByteArray) (p : Nat) (h : p ≤ 3) : -1 ≤ degD t p ∧ degD t p ≤ 999 := numV_3 (by simp; omega)
theorem degF_bd (t : ByteArray) (p : Nat) (h : t.size ≤ p + 10) : -1 ≤ degF t p ∧ degF t p ≤ 999999999 := numV_9 (by simp; omega)
/-- The divisor, for each number of digits. -/
theorem gcd_ten : ∀ n : Nat, n ≤ 9 → Nat.gcd (10 ^ n) 3600000000 = if n = 9 then 200000000 else 10 ^ n := by decide
theorem rndI_one (a : Int) : rndI a 1 = a := by
  unfold rndI
  rw [if_neg (by omega)]
  omega
theorem frac_8 (F : Int) (n : Nat) (h : n ≤ 8) : fracI F n = F * (3600000000 / tenI n) := by
  unfold fracI
  rw [gcd_ten n (by omega), if_neg (by omega), Nat.div_self (Nat.pow_pos (by omega))]
  exact rndI_one _
theorem frac_9 (F : Int) : fracI F 9 = rndI (F * 18) 5 := by
  unfold fracI
  rw [gcd_ten 9 (by omega)]
  rfl
theorem div_9 : ∀ n : Nat, n ≤ 9 → 1 ≤ 10 ^ n / Nat.gcd (10 ^ n) 3600000000 ∧ 10 ^ n / Nat.gcd (10 ^ n) 3600000000 ≤ 1000000000 ∧ 3600000000 / Nat.gcd (10 ^ n) 3600000000 ≤ 3600000000 ∧ 1 ≤ Nat.gcd (10 ^ n) 3600000000 ∧ Nat.gcd (10 ^ n) 3600000000 ≤ 1000000000 := by decide
theorem rndI_5 (a : Int) (h : 0 ≤ a) : 0 ≤ rndI a 5 ∧ 5 * rndI a 5 ≤ a + 5 := by
  unfold rndI
  split <;> omega
theorem frac_bd (F : Int) (n : Nat) (h0 : 0 ≤ F) (h1 : F ≤ 999999999) (h : n ≤ 9) : 0 ≤ fracI F n ∧ fracI F n ≤ 3600000000000000000 := by
  by_cases g : n = 9
  · subst g
    rw [frac_9]
    have := rndI_5 (F * 18) (by omega)
    omega
  · rw [frac_8 F n (by omega)]
    have t := (tenI_bd n (by omega)).1
    have q := div_bd (u := 3600000000) (by omega) t
    have := mul_bd h0 h1 q.1 q.2
    omega
theorem quiet_more {P : Program} {f : FuncId} {args : Array Value} {w : World} {n : Nat} {v : Value} (h : ∀ w : World, Calls P f args w fun e w' => e = .returned v ∧ ∃ m, w' = w.drewN m) :
    Calls P f args (w.drewN n) fun e w'' => e = .returned v ∧ ∃ m, w'' = w.drewN m :=
  (h (w.drewN n)).mono fun _ _ ⟨he, m, hm⟩ => ⟨he, n + m, by rw [hm]; simp only [World.drewN, Nat.add_assoc]⟩
theorem quiet_add_more {P : Program} {f : FuncId} {args : Array Value} {w : World} {a n : Nat} {v : Value} (h : ∀ w : World, Calls P f args w fun e w' => e = .returned v ∧ ∃ m, w' = w.drewN m) :
    Calls P f args (w.drewN (a + n)) fun e w'' => e = .returned v ∧ ∃ m, w'' = w.drewN (a + m) :=
  (h (w.drewN (a + n))).mono fun _ _ ⟨he, m, hm⟩ => ⟨he, n + m, by rw [hm]; simp only [World.drewN, Nat.add_assoc]⟩
theorem mul_9 : ∀ n : Nat, n ≤ 9 → 10 ^ n * (3600000000 / Nat.gcd (10 ^ n) 3600000000) ≤ 18000000000 := by decide
theorem rndI_bd {a u : Int} (ha : 0 ≤ a) (hu : 1 ≤ u) : 0 ≤ rndI a u ∧ rndI a u ≤ a + 1 := by
  have q := div_bd ha hu
  unfold rndI
  split <;> omega
theorem deg_letters (E : Int) (n : Nat) (h0 : 0 ≤ E) (h1 : E < 10 ^ n) (hn : n ≤ 9) : ∃ T C M U R : Int,
    tenI n = T ∧ (3600000000 : Int).tdiv C = M ∧ T.tdiv C = U ∧ 1 ≤ C ∧ C ≤ 1000000000 ∧ 1 ≤ T ∧ T ≤ 1000000000 ∧ 0 ≤ M ∧ M ≤ 3600000000 ∧ 1 ≤ U ∧ U ≤ 1000000000 ∧ 0 ≤ E * M ∧ E * M ≤ 18000000000 ∧ 0 ≤ R ∧ R ≤ 18000000001 ∧
    Hid (fracI E n = R) ∧
    (∀ w : World, Calls Tryd.prog 33 #[.int .i64 T] w fun e w' => e = .returned (.int .i64 C) ∧ Below w.heap.size w w') ∧
    (∀ w : World, Calls Tryd.prog 34 #[.int .i64 (E * M), .int .i64 U] w fun e w' => e = .returned (.int .i64 R) ∧ ∃ m, w' = w.drewN m) := by
  obtain ⟨u1, u2, m1, c1, c2⟩ := div_9 n hn
  have mm := mul_9 n hn
  have tb : 10 ^ n ≤ 1000000000 := Nat.pow_le_pow_right (n := 10) (by omega) hn
  have t1 : 1 ≤ 10 ^ n := Nat.pow_pos (by omega)
  obtain ⟨e, rfl⟩ : ∃ e : Nat, E = e := ⟨E.toNat, by omega⟩
  have he : e < 10 ^ n := by
    have : ((10 ^ n : Nat) : Int) = (10 : Int) ^ n := by simp
    omega
  have hm : e * (3600000000 / Nat.gcd (10 ^ n) 3600000000) ≤ 18000000000 := Nat.le_trans (Nat.mul_le_mul_right _ (Nat.le_of_lt he)) mm
  have em : ((e : Int) * ((3600000000 / Nat.gcd (10 ^ n) 3600000000 : Nat) : Int)) = ((e * (3600000000 / Nat.gcd (10 ^ n) 3600000000) : Nat) : Int) := by simp
  have rb := rndI_bd (a := (e : Int) * ((3600000000 / Nat.gcd (10 ^ n) 3600000000 : Nat) : Int)) (u := ((10 ^ n / Nat.gcd (10 ^ n) 3600000000 : Nat) : Int)) (by rw [em]; omega) (by omega)
  refine ⟨((10 ^ n : Nat) : Int), ((Nat.gcd (10 ^ n) 3600000000 : Nat) : Int), ((3600000000 / Nat.gcd (10 ^ n) 3600000000 : Nat) : Int), ((10 ^ n / Nat.gcd (10 ^ n) 3600000000 : Nat) : Int), _, rfl, rfl, rfl, Int.ofNat_le.2 c1, Int.ofNat_le.2 c2, Int.ofNat_le.2 t1, Int.ofNat_le.2 tb, Int.natCast_nonneg _, Int.ofNat_le.2 m1, Int.ofNat_le.2 u1, Int.ofNat_le.2 u2, by rw [em]; exact Int.natCast_nonneg _, by rw [em]; exact Int.ofNat_le.2 hm, rb.1, by rw [em] at rb ⊢; omega, Lib.hid rfl, fun w => ?_, fun w => ?_⟩
  · exact common_any _ w (by omega) (by omega)
  · rw [em]
    have := rrounded_any (e * (3600000000 / Nat.gcd (10 ^ n) 3600000000)) (10 ^ n / Nat.gcd (10 ^ n) 3600000000) w (by omega) (by omega) (by omega)
    rw [← em] at this ⊢
    exact this
end Ap
end Go.Proofs.YtmafjoboikbnnaaDoor
