/-
  Plain facts on designations: order letters, and which ones are valid; no program in sight.
-/
import Derived.WalkKit
namespace Go.Proofs.YtdjndoafnoidbaaDoor
namespace Dp

def ordL : List Int := [65, 66, 67, 68, 69, 70, 71, 72, 74, 75, 76, 77, 78, 79, 80, 81, 82, 83, 84, 85, 86, 87, 88, 89, 90]
def ordAt (j : Nat) : Int := ordL.getD j 0
/-- The place of an order letter, or -1. -/
def placeI (c : Int) : Int := if 65 ≤ c ∧ c ≤ 72 then c - 65 else if 74 ≤ c ∧ c ≤ 90 then c - 66 else -1
theorem place_ord : ∀ j, j < 25 → placeI (ordAt j) = j := by decide
theorem ord_bd : ∀ j, j < 25 → 65 ≤ ordAt j ∧ ordAt j ≤ 90 := by decide
theorem place_some : ∀ c : Nat, c < 256 → placeI c = -1 ∨ (0 ≤ placeI c ∧ placeI c < 25 ∧ ordAt (placeI c).toNat = c) := by decide +kernel
def Before (c : Int) (j : Nat) : Prop := ∀ i, i < j → ordAt i ≠ c
theorem place_none {c : Int} (h0 : 0 ≤ c) (h1 : c < 256) (h : Before c 25) : placeI c = -1 := by
  have := place_some c.toNat (by omega)
  rw [show ((c.toNat : Nat) : Int) = c by omega] at this
  rcases this with h' | ⟨a, b, e⟩
  · exact h'
  · exact absurd e (h _ (by omega))
theorem before_0 (c : Int) : Before c 0 := fun i h => absurd h (by omega)
theorem before_s {c : Int} {j : Nat} (h : Before c j) (g : ordAt j ≠ c) : Before c (j + 1) := fun i hi => by
  by_cases e : i = j
  · subst e; exact g
  · exact h i (by omega)
def halfP (h : Int) : Prop := 65 ≤ h ∧ h ≤ 89 ∧ h ≠ 73
def secP (s : Int) : Prop := 65 ≤ s ∧ s ≤ 90 ∧ s ≠ 73
instance (h : Int) : Decidable (halfP h) := by unfold halfP; infer_instance
instance (s : Int) : Decidable (secP s) := by unfold secP; infer_instance
/-- The same as Bools that a walk leaves as they stand. -/
def halfB (h : Int) : Bool := decide (halfP h)
def secB (s : Int) : Bool := decide (secP s)
theorem halfB_iff (h : Int) : halfB h = true ↔ halfP h := decide_eq_true_iff
theorem secB_iff (h : Int) : secB h = true ↔ secP h := decide_eq_true_iff
theorem halfB_true {h : Int} (g : halfP h) : true = halfB h := ((halfB_iff h).2 g).symm
theorem halfB_false {h : Int} (g : ¬ halfP h) : false = halfB h := (decide_eq_false g).symm
theorem secB_true {h : Int} (g : secP h) : true = secB h := ((secB_iff h).2 g).symm
theorem secB_false {h : Int} (g : ¬ secP h) : false = secB h := (decide_eq_false g).symm
theorem halfP_iff (h : Int) : halfP h ↔ 0 ≤ placeI h ∧ placeI h < 24 := by unfold halfP placeI; split <;> (try split) <;> omega
theorem secP_iff (h : Int) : secP h ↔ 0 ≤ placeI h := by unfold secP placeI; split <;> (try split) <;> omega
def okD (n y h s c : Int) : Prop := (n ≠ 0 ∧ y = 0 ∧ h = 0 ∧ s = 0 ∧ c = 0 ∧ 0 < n ∧ n ≤ 15396335) ∨ (n = 0 ∧ 1800 ≤ y ∧ y ≤ 2099 ∧ halfP h ∧ secP s ∧ 0 ≤ c ∧ c ≤ 619)
instance (n y h s c : Int) : Decidable (okD n y h s c) := by unfold okD halfP secP; infer_instance
/-- The error of Check. -/
def errC (n y h s c : Int) : Int := if okD n y h s c then 0 else 8
theorem errC_ok {n y h s c : Int} (g : okD n y h s c) : errC n y h s c = 0 := if_pos g
theorem errC_no {n y h s c : Int} (g : ¬ okD n y h s c) : errC n y h s c = 8 := if_neg g
theorem errC_two (n y h s c : Int) : errC n y h s c = 0 ∧ okD n y h s c ∨ errC n y h s c = 8 ∧ ¬ okD n y h s c := by
  by_cases g : okD n y h s c
  · exact Or.inl ⟨errC_ok g, g⟩
  · exact Or.inr ⟨errC_no g, g⟩
/-- Comparing numbers. -/
def sgn (a b : Int) : Int := if a < b then -1 else if b < a then 1 else 0
theorem sgn_lt {a b : Int} (h : a < b) : sgn a b = -1 := if_pos h
theorem sgn_gt {a b : Int} (h : b < a) : sgn a b = 1 := by unfold sgn; rw [if_neg (by omega), if_pos h]
theorem sgn_eq {a b : Int} (h : a = b) : sgn a b = 0 := by unfold sgn; rw [if_neg (by omega), if_neg (by omega)]
theorem sgn_bd (a b : Int) : -1 ≤ sgn a b ∧ sgn a b ≤ 1 := by unfold sgn; split <;> (try split) <;> omega
/-- The first one that is not 0. -/
def orr (a b : Int) : Int := if a = 0 then b else a
def seqAt (l : List Int) (j : Nat) : Int := l.getD j 0
def orRem (f : Nat → Int) (j : Nat) : Nat → Int
  | 0 => 0
  | r + 1 => if f j = 0 then orRem f (j + 1) r else f j
theorem or_six (a b c d e f : Int) : orRem (seqAt [a, b, c, d, e, f]) 0 6 = orr a (orr b (orr c (orr d (orr e f)))) := by
  simp [orRem, seqAt, orr]
  repeat' split
  all_goals simp_all
def min1 (a : Int) : Int := if 1 ≤ a then 1 else a
/-- Comparing designations, as the program does it. -/
def cmpP (n y h s c n' y' h' s' c' : Int) : Int := orr (-(sgn (min1 n) (min1 n'))) (orr (sgn n n') (orr (sgn y y') (orr (sgn h h') (orr (sgn c c') (sgn s s')))))
/-- The numbers that the reference compares. -/
def big (n : Int) : Int := if n = 0 then 15396336 else n
def cmpR (n y h s c n' y' h' s' c' : Int) : Int := orr (sgn (big n) (big n')) (orr (sgn y y') (orr (sgn h h') (orr (sgn c c') (sgn s s'))))
theorem cmp_same {n y h s c n' y' h' s' c' : Int} (g : okD n y h s c) (g' : okD n' y' h' s' c') : cmpP n y h s c n' y' h' s' c' = cmpR n y h s c n' y' h' s' c' := by
  have a : 0 ≤ n ∧ n ≤ 15396335 := by unfold okD at g; omega
  have b : 0 ≤ n' ∧ n' ≤ 15396335 := by unfold okD at g'; omega
  clear g g'
  unfold cmpP cmpR big min1
  by_cases h1 : n = 0
  · by_cases h2 : n' = 0
    · subst h1 h2
      simp [sgn, orr]
    · subst h1
      rw [sgn_lt (a := if 1 ≤ (0 : Int) then 1 else 0) (b := if 1 ≤ n' then 1 else n') (by rw [if_neg (by omega), if_pos (by omega)]; omega), sgn_gt (a := if (0 : Int) = 0 then 15396336 else 0) (b := if n' = 0 then 15396336 else n') (by rw [if_pos rfl, if_neg h2]; omega)]
      rfl
  · by_cases h2 : n' = 0
    · subst h2
      rw [sgn_gt (b := if 1 ≤ (0 : Int) then 1 else 0) (a := if 1 ≤ n then 1 else n) (by rw [if_neg (by omega), if_pos (by omega)]; omega), sgn_lt (b := if (0 : Int) = 0 then 15396336 else 0) (a := if n = 0 then 15396336 else n) (by rw [if_pos rfl, if_neg h1]; omega)]
      rfl
    · rw [sgn_eq (a := if 1 ≤ n then 1 else n) (b := if 1 ≤ n' then 1 else n') (by rw [if_pos (by omega), if_pos (by omega)]), if_neg h1, if_neg h2]
      rfl
/-- What Compare returns. -/
def CmpIs (n y h s c n' y' h' s' c' v k : Int) : Prop := (okD n y h s c ∧ okD n' y' h' s' c' ∧ v = cmpR n y h s c n' y' h' s' c' ∧ k = 0) ∨ (¬ (okD n y h s c ∧ okD n' y' h' s' c') ∧ v = 0 ∧ k = 8)
theorem CmpIs.uniq {n y h s c n' y' h' s' c' v k v' k' : Int} (a : CmpIs n y h s c n' y' h' s' c' v k) (b : CmpIs n y h s c n' y' h' s' c' v' k') : v = v' ∧ k = k' := by
  rcases a with ⟨a1, a2, a3, a4⟩ | ⟨a1, a2, a3⟩ <;> rcases b with ⟨b1, b2, b3, b4⟩ | ⟨b1, b2, b3⟩
  · exact ⟨a3.trans b3.symm, a4.trans b4.symm⟩
  · exact absurd ⟨a1, a2⟩ b1
  · exact absurd ⟨b1, b2⟩ a1
  · exact ⟨a2.trans b2.symm, a3.trans b3.symm⟩
theorem okD_bd {n y h s c : Int} (g : okD n y h s c) : 0 ≤ n ∧ n ≤ 15396335 := by unfold okD at g; omega
/-- The half-month letter of a date. -/
def halfLet (m d : Int) : Int := ordAt (2 * m.toNat - 2 + (if 15 < d then 1 else 0))
/-- What Half returns. -/
def HalfIs (m d v k : Int) : Prop := (1 ≤ m ∧ m ≤ 12 ∧ 1 ≤ d ∧ d ≤ 31 ∧ v = halfLet m d ∧ k = 0) ∨ (¬ (1 ≤ m ∧ m ≤ 12 ∧ 1 ≤ d ∧ d ≤ 31) ∧ v = 0 ∧ k = 2)
theorem HalfIs.uniq {m d v k v' k' : Int} (a : HalfIs m d v k) (b : HalfIs m d v' k') : v = v' ∧ k = k' := by
  rcases a with ⟨a1, a2, a3, a4, a5, a6⟩ | ⟨a1, a2, a3⟩ <;> rcases b with ⟨b1, b2, b3, b4, b5, b6⟩ | ⟨b1, b2, b3⟩
  · exact ⟨a5.trans b5.symm, a6.trans b6.symm⟩
  · exact absurd ⟨a1, a2, a3, a4⟩ b1
  · exact absurd ⟨b1, b2, b3, b4⟩ a1
  · exact ⟨a2.trans b2.symm, a3.trans b3.symm⟩
theorem or12 {m : Int} (a : 1 ≤ m) (b : m ≤ 12) : m = 1 ∨ m = 2 ∨ m = 3 ∨ m = 4 ∨ m = 5 ∨ m = 6 ∨ m = 7 ∨ m = 8 ∨ m = 9 ∨ m = 10 ∨ m = 11 ∨ m = 12 := by omega
/-- A list of designations, field by field. -/
structure Ls where
  N : Nat → Int
  Y : Nat → Int
  U : Nat → Int
  S : Nat → Int
  C : Nat → Int
def okL (L : Ls) (k : Nat) : Prop := okD (L.N k) (L.Y k) (L.U k) (L.S k) (L.C k)
def errL (L : Ls) (k : Nat) : Int := errC (L.N k) (L.Y k) (L.U k) (L.S k) (L.C k)
/-- The order of a designation within its half-month. -/
def codeL (L : Ls) (k : Nat) : Int := 25 * L.C k + placeI (L.S k)
def hitL (L : Ls) (y h : Int) (k : Nat) : Prop := L.N k = 0 ∧ L.Y k = y ∧ L.U k = h
instance (L : Ls) (y h : Int) (k : Nat) : Decidable (hitL L y h k) := by unfold hitL; infer_instance
/-- The order behind the designations of a half-month among the first ones. -/
def nextTo (L : Ls) (y h : Int) : Nat → Int
  | 0 => 0
  | k + 1 => if hitL L y h k then (if nextTo L y h k < codeL L k + 1 then codeL L k + 1 else nextTo L y h k) else nextTo L y h k
def okTo (L : Ls) (k : Nat) : Prop := ∀ j, j < k → okL L j
theorem okTo_0 (L : Ls) : okTo L 0 := fun j h => absurd h (by omega)
theorem okTo_s {L : Ls} {k : Nat} (h : okTo L k) (g : okL L k) : okTo L (k + 1) := fun j hj => by
  by_cases e : j = k
  · subst e; exact g
  · exact h j (by omega)
theorem code_bd {L : Ls} {k : Nat} (g : okL L k) (h0 : L.N k = 0) : 0 ≤ codeL L k ∧ codeL L k ≤ 15499 ∧ 0 ≤ L.C k ∧ L.C k ≤ 619 ∧ 0 ≤ placeI (L.S k) ∧ placeI (L.S k) < 25 := by
  unfold okL okD at g
  unfold codeL
  have hp : secP (L.S k) := by
    rcases g with g | g
    · omega
    · exact g.2.2.2.2.1
  have h1 := (secP_iff (L.S k)).1 hp
  have h2 : placeI (L.S k) < 25 := by unfold placeI; split <;> (try split) <;> omega
  have h3 : 0 ≤ L.C k ∧ L.C k ≤ 619 := by
    rcases g with g | g
    · omega
    · exact ⟨g.2.2.2.2.2.1, g.2.2.2.2.2.2⟩
  omega
theorem next_bd {L : Ls} {y h : Int} {k : Nat} (g : okTo L k) : 0 ≤ nextTo L y h k ∧ nextTo L y h k ≤ 15500 := by
  induction k with
  | zero => simp [nextTo]
  | succ k ih =>
    have ih := ih (fun j hj => g j (by omega))
    simp only [nextTo]
    by_cases c : hitL L y h k
    · rw [if_pos c]
      have := code_bd (g k (by omega)) c.1
      split <;> omega
    · rw [if_neg c]; exact ih
/-- What Next returns. -/
def NextIs (L : Ls) (n : Nat) (y h : Int) (rn ry rh rs rc k : Int) : Prop :=
  (¬ (1800 ≤ y ∧ y ≤ 2099 ∧ halfP h) ∧ rn = 0 ∧ ry = 0 ∧ rh = 0 ∧ rs = 0 ∧ rc = 0 ∧ k = 2) ∨
  ((1800 ≤ y ∧ y ≤ 2099 ∧ halfP h) ∧ 1000 < n ∧ rn = 0 ∧ ry = 0 ∧ rh = 0 ∧ rs = 0 ∧ rc = 0 ∧ k = 4) ∨
  ((1800 ≤ y ∧ y ≤ 2099 ∧ halfP h) ∧ n ≤ 1000 ∧ ¬ okTo L n ∧ rn = 0 ∧ ry = 0 ∧ rh = 0 ∧ rs = 0 ∧ rc = 0 ∧ k = 8) ∨
  ((1800 ≤ y ∧ y ≤ 2099 ∧ halfP h) ∧ n ≤ 1000 ∧ okTo L n ∧ 619 < nextTo L y h n / 25 ∧ rn = 0 ∧ ry = 0 ∧ rh = 0 ∧ rs = 0 ∧ rc = 0 ∧ k = 16) ∨
  ((1800 ≤ y ∧ y ≤ 2099 ∧ halfP h) ∧ n ≤ 1000 ∧ okTo L n ∧ nextTo L y h n / 25 ≤ 619 ∧ rn = 0 ∧ ry = y ∧ rh = h ∧ rs = ordAt (nextTo L y h n % 25).toNat ∧ rc = nextTo L y h n / 25 ∧ k = 0)
theorem NextIs.uniq {L : Ls} {n : Nat} {y h a1 a2 a3 a4 a5 a6 b1 b2 b3 b4 b5 b6 : Int} (a : NextIs L n y h a1 a2 a3 a4 a5 a6) (b : NextIs L n y h b1 b2 b3 b4 b5 b6) : a1 = b1 ∧ a2 = b2 ∧ a3 = b3 ∧ a4 = b4 ∧ a5 = b5 ∧ a6 = b6 := by
  rcases a with ⟨x, a⟩ | ⟨x, x2, a⟩ | ⟨x, x2, x3, a⟩ | ⟨x, x2, x3, x4, a⟩ | ⟨x, x2, x3, x4, a⟩ <;> rcases b with ⟨z, b⟩ | ⟨z, z2, b⟩ | ⟨z, z2, z3, b⟩ | ⟨z, z2, z3, z4, b⟩ | ⟨z, z2, z3, z4, b⟩
  all_goals first
    | exact absurd z x
    | exact absurd x z
    | exact absurd z3 x3
    | exact absurd x3 z3
    | omega
end Dp
end Go.Proofs.YtdjndoafnoidbaaDoor
