/-
  Plain law of DesigNext: what Next returns lies behind all of its half-month, and right behind the last one; no program in sight.
-/
import Derived.Test.YtdjndoafnoidbaaDoorDPl
namespace Go.Proofs.YtdjndoafnoidbaaDoor
namespace Dw
open Go.RowKit Dp

/-- Comparing an order with one of the same half-month. -/
theorem cmp_codeN {L : Ls} {k : Nat} {y h S C : Int} (g : okL L k) (hit : hitL L y h k) (hS : secP S) (_hC : 0 ≤ C) : (cmpR (L.N k) (L.Y k) (L.U k) (L.S k) (L.C k) 0 y h S C < 0) ↔ codeL L k < 25 * C + placeI S := by
  obtain ⟨h1, h2, h3⟩ := hit
  have cb := code_bd g h1
  have hs : secP (L.S k) := (secP_iff _).2 (by omega)
  unfold cmpR codeL
  rw [h1, h2, h3, sgn_eq (a := big 0) rfl, sgn_eq (a := y) rfl, sgn_eq (a := h) rfl]
  have e : orr 0 (orr 0 (orr 0 (orr (sgn (L.C k) C) (sgn (L.S k) S)))) = orr (sgn (L.C k) C) (sgn (L.S k) S) := by simp [orr]
  rw [e]
  unfold orr sgn placeI
  unfold secP at hS hs
  split <;> split <;> (try split) <;> (try split) <;> (try split) <;> (try split) <;> omega

theorem sec_backN {S C : Int} (hS : secP S) (_hC : 0 ≤ C) : ordAt ((25 * C + placeI S) % 25).toNat = S ∧ (25 * C + placeI S) / 25 = C := by
  have hp := (secP_iff S).1 hS
  have hp2 : placeI S < 25 := by unfold secP at hS; unfold placeI; split <;> (try split) <;> omega
  have e1 : (25 * C + placeI S) % 25 = placeI S := by omega
  refine ⟨?_, by omega⟩
  rw [e1]
  have : ∀ x : Fin 256, secP (x.val : Int) → ordAt (placeI (x.val : Int)).toNat = (x.val : Int) := by unfold secP; decide +kernel
  have hb : 0 ≤ S ∧ S < 256 := by unfold secP at hS; omega
  have := this ⟨S.toNat, by omega⟩
  simp only [show ((S.toNat : Nat) : Int) = S by omega] at this
  exact this hS
/-- The order letter and the cycle before those of a designation. -/
def bS (s : Int) : Int := if s = 65 then 90 else if s = 74 then 72 else s - 1
def bC (s c : Int) : Int := if s = 65 then c - 1 else c
/-- Is one of the first designations of the half-month that of the given order? -/
def lastB (L : Ls) (y h S C : Int) : Nat → Bool
  | 0 => false
  | k + 1 => lastB L y h S C k || decide (hitL L y h k ∧ L.S k = S ∧ L.C k = C)
theorem lastB_at {L : Ls} {y h S C : Int} {j : Nat} (hj : hitL L y h j ∧ L.S j = S ∧ L.C j = C) : ∀ n, j < n → lastB L y h S C n = true
  | 0, h => absurd h (by omega)
  | n + 1, hn => by
    simp only [lastB, Bool.or_eq_true, decide_eq_true_eq]
    by_cases e : j = n
    · subst e; exact Or.inr hj
    · exact Or.inl (lastB_at hj n (by omega))
theorem lastB_skip {L : Ls} {y h S C : Int} {k : Nat} (g : ¬ hitL L y h k) : lastB L y h S C (k + 1) = lastB L y h S C k := by
  simp only [lastB]
  rw [decide_eq_false (fun e => g e.1), Bool.or_false]
theorem next_ge {L : Ls} {y h : Int} {j : Nat} (hj : hitL L y h j) : ∀ n, j < n → codeL L j < nextTo L y h n
  | 0, h => absurd h (by omega)
  | n + 1, hn => by
    simp only [nextTo]
    by_cases e : j = n
    · subst e
      rw [if_pos hj]
      split <;> omega
    · have ih := next_ge hj n (by omega)
      split <;> (try split) <;> omega
theorem next_from (L : Ls) (y h : Int) : ∀ n, nextTo L y h n = 0 ∨ ∃ j, j < n ∧ hitL L y h j ∧ nextTo L y h n = codeL L j + 1
  | 0 => Or.inl rfl
  | n + 1 => by
    simp only [nextTo]
    have ih : nextTo L y h n = 0 ∨ ∃ j, j < n + 1 ∧ hitL L y h j ∧ nextTo L y h n = codeL L j + 1 := (next_from L y h n).imp id fun ⟨j, a, b⟩ => ⟨j, by omega, b⟩
    by_cases g : hitL L y h n
    · rw [if_pos g]
      by_cases g2 : nextTo L y h n < codeL L n + 1
      · rw [if_pos g2]
        exact Or.inr ⟨n, by omega, g, rfl⟩
      · rw [if_neg g2]
        exact ih
    · rw [if_neg g]
      exact ih
theorem sec_at : ∀ i, i < 25 → secP (ordAt i) := by decide +kernel
theorem before_at : ∀ i, i < 25 → (i = 0 ∧ ordAt i = 65) ∨ (0 < i ∧ ordAt i ≠ 65 ∧ bS (ordAt i) = ordAt (i - 1)) := by decide +kernel
theorem ordAt_24 : ordAt 24 = 90 := by decide
/-- The facts of a Next that answers. -/
theorem next_facts {L : Ls} {n : Nat} {y h rn ry rh rs rc : Int} (i : NextIs L n y h rn ry rh rs rc 0) :
    okTo L n ∧ rn = 0 ∧ ry = y ∧ rh = h ∧ okD 0 y h rs rc ∧ (∀ k, k < n → hitL L y h k → cmpR (L.N k) (L.Y k) (L.U k) (L.S k) (L.C k) 0 y h rs rc < 0) ∧
    (lastB L y h (bS rs) (bC rs rc) n = true ∨ rs = 65 ∧ rc = 0) := by
  rcases i with ⟨_, _, _, _, _, _, e⟩ | ⟨_, _, _, _, _, _, _, e⟩ | ⟨_, _, _, _, _, _, _, _, e⟩ | ⟨_, _, _, _, _, _, _, _, _, e⟩ | ⟨⟨y1, y2, hp⟩, hn, ok, hq, e1, e2, e3, e4, e5, _⟩
  · exact absurd e (by decide)
  · exact absurd e (by decide)
  · exact absurd e (by decide)
  · exact absurd e (by decide)
  obtain ⟨q0, q1⟩ := next_bd (y := y) (h := h) ok
  have hge : ∀ k, hitL L y h k → k < n → codeL L k < nextTo L y h n := fun k hit hk => next_ge hit n hk
  have hfr := next_from L y h n
  generalize nextTo L y h n = q at *
  have hi : (q % 25).toNat < 25 := by omega
  have hs : secP rs := by rw [e4]; exact sec_at _ hi
  have hpl : placeI rs = q % 25 := by rw [e4, place_ord _ hi]; omega
  refine ⟨ok, e1, e2, e3, Or.inr ⟨rfl, y1, y2, hp, hs, by omega, by omega⟩, fun k hk hit => (cmp_codeN (ok k hk) hit hs (by omega)).2 ?_, ?_⟩
  · have := hge k hit hk
    rw [hpl, e5]
    omega
  · rcases hfr with hz | ⟨j, hj, hit, hc⟩
    · right
      subst hz
      exact ⟨by rw [e4]; rfl, by rw [e5]; rfl⟩
    · left
      obtain ⟨c1, c2, c3, c4, c5, c6⟩ := code_bd (ok j hj) hit.1
      have hsj : secP (L.S j) := (secP_iff _).2 c5
      obtain ⟨b1, b2⟩ := sec_backN hsj c3
      have ec : 25 * L.C j + placeI (L.S j) = q - 1 := by have : codeL L j = 25 * L.C j + placeI (L.S j) := rfl; omega
      rw [ec] at b1 b2
      refine lastB_at ⟨hit, ?_, ?_⟩ n hj
      · rcases before_at _ hi with ⟨a1, a2⟩ | ⟨a1, a2, a3⟩
        · have h65 : rs = 65 := e4.trans a2
          have : ((q - 1) % 25).toNat = 24 := by omega
          rw [this, ordAt_24] at b1
          rw [← b1, h65]
          rfl
        · rw [e4, a3, ← b1]
          congr 1
          omega
      · rcases before_at _ hi with ⟨a1, a2⟩ | ⟨a1, a2, a3⟩
        · have h65 : rs = 65 := e4.trans a2
          unfold bC
          rw [if_pos h65]
          omega
        · unfold bC
          rw [if_neg (by rw [e4]; exact a2)]
          omega
end Dw
end Go.Proofs.YtdjndoafnoidbaaDoor
