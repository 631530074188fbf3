/-
  Plain law of the texts of times: what a text says, for any string; no walk here.
-/
import Derived.Test.YtmgehfakcnmdnaaDoorMGrp
import Derived.Test.YtmgehfakcnmdnaaDoorMPl
namespace Go.Proofs.YtmgehfakcnmdnaaDoor
namespace Ap
open Go.RowKit Lw Mp

/-- 0000-00-00T00:00:00 -/
def P19 : ByteArray := ⟨#[48, 48, 48, 48, 45, 48, 48, 45, 48, 48, 84, 48, 48, 58, 48, 48, 58, 48, 48]⟩
/-- 0000 00 00 -/
def P10 : ByteArray := ⟨#[48, 48, 48, 48, 32, 48, 48, 32, 48, 48]⟩
/-- 000000 -/
def P6 : ByteArray := ⟨#[48, 48, 48, 48, 48, 48]⟩
/-- The number of some bytes. -/
def nm (s : ByteArray) (i j : Nat) : Int := numV (s.extract i j).data.toList
def textP (s : ByteArray) : Prop := 20 ≤ s.size ∧ s.size ≠ 21 ∧ s.size ≤ 27 ∧ bt s (s.size - 1) = 90 ∧ likeP (s.extract 0 19) P19 ∧ (20 < s.size → bt s 19 = 46 ∧ 0 ≤ nm s 20 (s.size - 1))
def microV (s : ByteArray) : Int := if s.size = 20 then 0 else nm s 20 (s.size - 1) * tenI (27 - s.size)
def okText (s : ByteArray) : Prop := textP s ∧ fromOk (nm s 0 4) (nm s 5 7) (nm s 8 10) (nm s 11 13) (nm s 14 16) (nm s 17 19) (microV s)
def textV (s : ByteArray) : Int := timeOf (nm s 0 4) (nm s 5 7) (nm s 8 10) (nm s 11 13) (nm s 14 16) (nm s 17 19) (microV s)
/-- What Parse returns: the time, and the error. -/
def ParseIs (s : ByteArray) (t e : Int) : Prop := (okText s ∧ t = textV s ∧ e = 0) ∨ (¬ okText s ∧ t = 0 ∧ e = 12)
theorem ParseIs.uniq {s : ByteArray} {t e t' e' : Int} (a : ParseIs s t e) (b : ParseIs s t' e') : t = t' ∧ e = e' := by
  rcases a with ⟨a1, a2, a3⟩ | ⟨a1, a2, a3⟩ <;> rcases b with ⟨b1, b2, b3⟩ | ⟨b1, b2, b3⟩
  · exact ⟨by rw [a2, b2], by omega⟩
  · exact absurd a1 b1
  · exact absurd b1 a1
  · exact ⟨by omega, by omega⟩
def dayP (s : ByteArray) : Prop := 10 ≤ s.size ∧ s.size ≠ 11 ∧ s.size ≤ 20 ∧ likeP (s.extract 0 10) P10 ∧ (10 < s.size → bt s 10 = 46 ∧ 0 ≤ nm s 11 s.size)
def okDay (s : ByteArray) : Prop := dayP s ∧ fromOk (nm s 0 4) (nm s 5 7) (nm s 8 10) 0 0 0 0
/-- A quotient, rounded up. -/
def upI (a b : Int) : Int := a / b + (if 0 < a % b then 1 else 0)
def dayLen (y m d : Int) : Int := if d = mo y (m + 1) - mo y m ∧ lps (12 * y + m) = lps (12 * y + m - 1) + 1 then 86401000000 else 86400000000
def partV (s : ByteArray) : Int := if s.size = 10 then 0 else upI (nm s 11 s.size * dayLen (nm s 0 4) (nm s 5 7) (nm s 8 10)) (tenI (s.size - 11))
def dayV (s : ByteArray) : Int := timeOf (nm s 0 4) (nm s 5 7) (nm s 8 10) 0 0 0 0 + partV s
/-- What ParseDay returns: the time, and the error. -/
def PDayIs (s : ByteArray) (t e : Int) : Prop := (okDay s ∧ t = dayV s ∧ e = 0) ∨ (¬ okDay s ∧ t = 0 ∧ e = 12)
theorem PDayIs.uniq {s : ByteArray} {t e t' e' : Int} (a : PDayIs s t e) (b : PDayIs s t' e') : t = t' ∧ e = e' := by
  rcases a with ⟨a1, a2, a3⟩ | ⟨a1, a2, a3⟩ <;> rcases b with ⟨b1, b2, b3⟩ | ⟨b1, b2, b3⟩
  · exact ⟨by rw [a2, b2], by omega⟩
  · exact absurd a1 b1
  · exact absurd b1 a1
  · exact ⟨by omega, by omega⟩
/-! ### Head and tail -/
abbrev noPt (c : UInt8) : Bool := decide (¬ ((c.toNat : Nat) : Int) = 46)
/-- The place of the first point, or the end. -/
def ptL (l : List UInt8) : Nat := (l.takeWhile noPt).length
theorem ptL_le : ∀ l : List UInt8, ptL l ≤ l.length
  | [] => by simp [ptL]
  | c :: l => by
    have := ptL_le l
    unfold ptL at *
    rw [List.takeWhile_cons]
    split
    · simp; omega
    · simp
theorem ptL_lo : ∀ (l : List UInt8) (j : Nat) (h : j < ptL l) (g : j < l.length), ¬ ((l[j].toNat : Nat) : Int) = 46
  | [], _, _, g => absurd g (by simp)
  | c :: l, j, h, g => by
    unfold ptL at h
    rw [List.takeWhile_cons] at h
    cases hb : noPt c with
    | false => rw [hb] at h; simp at h
    | true =>
      rw [hb] at h
      cases j with
      | zero => exact of_decide_eq_true hb
      | succ j =>
        simp only [List.getElem_cons_succ]
        exact ptL_lo l j (by unfold ptL; simp at h; omega) (by simpa using g)
theorem ptL_at : ∀ (l : List UInt8) (h : ptL l < l.length), ((l[ptL l].toNat : Nat) : Int) = 46
  | [], h => absurd h (by simp)
  | c :: l, h => by
    cases hb : noPt c with
    | false =>
      have e : ptL (c :: l) = 0 := by unfold ptL; rw [List.takeWhile_cons, hb]; rfl
      have : ((c :: l)[ptL (c :: l)]) = c := by simp only [e]; rfl
      rw [this]
      have := of_decide_eq_false hb
      omega
    | true =>
      have e : ptL (c :: l) = ptL l + 1 := by unfold ptL; rw [List.takeWhile_cons, hb]; simp
      have := ptL_at l (by rw [e] at h; simpa using h)
      have e2 : ((c :: l)[ptL (c :: l)]) = l[ptL l]'(by rw [e] at h; simpa using h) := by simp only [e]; rfl
      rw [e2]; exact this
theorem ptL_uniq {l : List UInt8} {q : Nat} (h : q ≤ l.length) (h1 : ∀ j (g : j < l.length), j < q → ¬ ((l[j].toNat : Nat) : Int) = 46) (h2 : ∀ g : q < l.length, ((l[q].toNat : Nat) : Int) = 46) : ptL l = q := by
  have a := ptL_le l
  rcases Nat.lt_trichotomy (ptL l) q with c | c | c
  · exact absurd (ptL_at l (by omega)) (h1 _ (by omega) c)
  · exact c
  · exact absurd (h2 (by omega)) (ptL_lo l q c (by omega))
end Ap
end Go.Proofs.YtmgehfakcnmdnaaDoor
