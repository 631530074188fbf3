/-
  Lemmas and walks, texts joined: Frame, DPl, DTxt, MBPl, MNum, MTen, Shelf, MPad, MLike, MGrp, MForm, MCut.
-/
import Derived.Lib.SmallJoins
import Derived.WalkKit
import Derived.Lib.ItoaLen
import Derived.Lib.Repeat
import Derived.Lib.ItoaNum
import Derived.ProofKit
import Derived.Lib.Hide
import Derived.Laws.RangeAny
import Derived.LoopTactic
import Derived.Deep.QuietTactic
import Derived.BigQuiet
import Derived.WalkLawsBesides
import Derived.WalkSpells
import Derived.Shelf.Bits.Mul64
import Derived.Shelf.LaysM
import Derived.Shelf.Pu.ParseUintPublic10
import Derived.Shelf.SlicesE.Clone
import Derived.Shelf.Small.Bits
import Derived.Shelf.Small.Strs
import Derived.Shelf.Small.Utf8
import Derived.Shelf.Small.Wraps
import Derived.Shelf.Strconv.Itoa0
import Derived.Shelf.Strconv.Itoa1
import Derived.Shelf.Strconv.Itoa2
import Derived.Shelf.Strconv.Itoa3
import Derived.Shelf.Strconv.Itoa4
import Derived.Shelf.Strings.Builder1
import Derived.Shelf.Strings.Builder2
import Derived.Shelf.Strings.BuilderF
import Derived.Shelf.Strings.Cut
import Derived.Shelf.Strings.OnBuilder
import Derived.Shelf.Strings.Prefix
import Derived.Shelf.Strings.Repeat
import Derived.Shelf.Strings.Runes
import Derived.Shelf.Strings.Search1
import Derived.Shelf.Strings.Search2
import Derived.Shelf.Strings.Shaped
import Derived.Shelf.Strings.SlTrimAscii
import Derived.Shelf.Strings.Trim
import Derived.Lib.LaidTab
import Derived.Laws.Concat
import Derived.Sort.Grow
import Derived.Test.YtafeigpmldgifaaGreatDoorKa01
import Derived.Test.YtafeigpmldgifaaGreatDoorRows
import Derived.Test.YtafeigpmldgifaaGreatDoorProg
set_option linter.unusedSimpArgs false
set_option linter.unusedVariables false
/-
  Opening an argument that is a struct by value, whatever the number of its one-cell fields; for any program.
-/
namespace Go.Proofs.YtafeigpmldgifaaGreatDoor
namespace Fr
open Go.Joins Go.ChangeShapes Go.WideShapes Go.RowKit Go.Deep

section
variable {H : Type} {enc : TypeId × Value → H} {P : Program} {w : World} {base : Nat} {spare : Nat → Bool} {held : Bool}
theorem open_agg {r : Reach} {b0 : Nat} {t : TypeId} {fs : Array Field} {v : Value} {d : DataW H} {p : List MemPlace} (hs : P.underlying t = some (.struct fs)) (hone : oneCellFields P fs = true) (hC : P.cellsOf t = fs.size)
    (hv : Value.okWide P w r b0 t v) (h : DataW.Trod enc P w base spare held t v d p) :
    ∃ l : List Value, v = .agg l.toArray ∧ l.length = fs.size ∧ ∃ n : Nat, ∀ (j : Nat) (f : Field) (c : Value), fs[j]? = some f → l[j]? = some c → ∃ y, DataW.trod enc P w base spare held n f.type [c] = some y := by
  obtain ⟨cs, rfl, hsz⟩ := okWide_struct hs hv
  obtain ⟨l⟩ := cs
  have hl : l.length = fs.size := hsz.trans hC
  obtain ⟨fuel, hf⟩ := h
  obtain ⟨xs, n, _, hx, _, hlen, hg⟩ := DataW.trod_struct hs hf
  refine ⟨l, rfl, hl, n, fun j f c hj hc => ?_⟩
  obtain ⟨o, k⟩ := hone_of hone j f hj
  have hjl : j < l.length := (List.getElem?_eq_some_iff.1 hc).1
  have h1 := hg j f hj
  rw [o, k] at h1
  have e : ((Value.agg l.toArray).cells.toList.drop j).take 1 = [c] := by
    show (l.drop j).take 1 = [c]
    rw [List.drop_eq_getElem_cons hjl]
    have := (List.getElem?_eq_some_iff.1 hc).2
    simp [this]
  rw [e] at h1
  have hxl : j < xs.length := by omega
  exact ⟨xs[j], h1.trans (List.getElem?_eq_getElem hxl)⟩
end
theorem one_eq {a b : Value} (h : [a] = [b]) : a = b := by injection h
theorem list2 {l : List Value} (h : l.length = 2) : ∃ a b, l = [a, b] := by match l, h with | [a, b], _ => exact ⟨a, b, rfl⟩
theorem list3 {l : List Value} (h : l.length = 3) : ∃ a b c, l = [a, b, c] := by match l, h with | [a, b, c], _ => exact ⟨a, b, c, rfl⟩
theorem list4 {l : List Value} (h : l.length = 4) : ∃ a b c d, l = [a, b, c, d] := by match l, h with | [a, b, c, d], _ => exact ⟨a, b, c, d, rfl⟩
theorem list5 {l : List Value} (h : l.length = 5) : ∃ a b c d e, l = [a, b, c, d, e] := by match l, h with | [a, b, c, d, e], _ => exact ⟨a, b, c, d, e, rfl⟩
theorem list6 {l : List Value} (h : l.length = 6) : ∃ a b c d e f, l = [a, b, c, d, e, f] := by match l, h with | [a, b, c, d, e, f], _ => exact ⟨a, b, c, d, e, f, rfl⟩
theorem list7 {l : List Value} (h : l.length = 7) : ∃ a b c d e f g, l = [a, b, c, d, e, f, g] := by match l, h with | [a, b, c, d, e, f, g], _ => exact ⟨a, b, c, d, e, f, g, rfl⟩
theorem list8 {l : List Value} (h : l.length = 8) : ∃ a b c d e f g i, l = [a, b, c, d, e, f, g, i] := by match l, h with | [a, b, c, d, e, f, g, i], _ => exact ⟨a, b, c, d, e, f, g, i, rfl⟩
end Fr
end Go.Proofs.YtafeigpmldgifaaGreatDoor
/-
  Plain facts on designations: order letters, and which ones are valid; no program in sight.
-/
namespace Go.Proofs.YtafeigpmldgifaaGreatDoor
namespace Dp

def ordL : List Int := [65, 66, 67, 68, 69, 70, 71, 72, 74, 75, 76, 77, 78, 79, 80, 81, 82, 83, 84, 85, 86, 87, 88, 89, 90]
def ordAt (j : Nat) : Int := ordL.getD j 0
/-- The place of an order letter, or -1. -/
def placeI (c : Int) : Int := if 65 ≤ c ∧ c ≤ 72 then c - 65 else if 74 ≤ c ∧ c ≤ 90 then c - 66 else -1
theorem place_ord : ∀ j, j < 25 → placeI (ordAt j) = j := by decide
theorem ord_bd : ∀ j, j < 25 → 65 ≤ ordAt j ∧ ordAt j ≤ 90 := by decide
theorem place_some : ∀ c : Nat, c < 256 → placeI c = -1 ∨ (0 ≤ placeI c ∧ placeI c < 25 ∧ ordAt (placeI c).toNat = c) := by decide +kernel
def Before (c : Int) (j : Nat) : Prop := ∀ i, i < j → ordAt i ≠ c
theorem place_none {c : Int} (h0 : 0 ≤ c) (h1 : c < 256) (h : Before c 25) : placeI c = -1 := by
  have := place_some c.toNat (by omega)
  rw [show ((c.toNat : Nat) : Int) = c by omega] at this
  rcases this with h' | ⟨a, b, e⟩
  · exact h'
  · exact absurd e (h _ (by omega))
theorem before_0 (c : Int) : Before c 0 := fun i h => absurd h (by omega)
theorem before_s {c : Int} {j : Nat} (h : Before c j) (g : ordAt j ≠ c) : Before c (j + 1) := fun i hi => by
  by_cases e : i = j
  · subst e; exact g
  · exact h i (by omega)
def halfP (h : Int) : Prop := 65 ≤ h ∧ h ≤ 89 ∧ h ≠ 73
def secP (s : Int) : Prop := 65 ≤ s ∧ s ≤ 90 ∧ s ≠ 73
instance (h : Int) : Decidable (halfP h) := by unfold halfP; infer_instance
instance (s : Int) : Decidable (secP s) := by unfold secP; infer_instance
/-- The same as Bools that a walk leaves as they stand. -/
def halfB (h : Int) : Bool := decide (halfP h)
def secB (s : Int) : Bool := decide (secP s)
theorem halfB_iff (h : Int) : halfB h = true ↔ halfP h := decide_eq_true_iff
theorem secB_iff (h : Int) : secB h = true ↔ secP h := decide_eq_true_iff
theorem halfB_true {h : Int} (g : halfP h) : true = halfB h := ((halfB_iff h).2 g).symm
theorem halfB_false {h : Int} (g : ¬ halfP h) : false = halfB h := (decide_eq_false g).symm
theorem secB_true {h : Int} (g : secP h) : true = secB h := ((secB_iff h).2 g).symm
theorem secB_false {h : Int} (g : ¬ secP h) : false = secB h := (decide_eq_false g).symm
theorem halfP_iff (h : Int) : halfP h ↔ 0 ≤ placeI h ∧ placeI h < 24 := by unfold halfP placeI; split <;> (try split) <;> omega
theorem secP_iff (h : Int) : secP h ↔ 0 ≤ placeI h := by unfold secP placeI; split <;> (try split) <;> omega
def okD (n y h s c : Int) : Prop := (n ≠ 0 ∧ y = 0 ∧ h = 0 ∧ s = 0 ∧ c = 0 ∧ 0 < n ∧ n ≤ 15396335) ∨ (n = 0 ∧ 1800 ≤ y ∧ y ≤ 2099 ∧ halfP h ∧ secP s ∧ 0 ≤ c ∧ c ≤ 619)
instance (n y h s c : Int) : Decidable (okD n y h s c) := by unfold okD halfP secP; infer_instance
/-- The error of Check. -/
def errC (n y h s c : Int) : Int := if okD n y h s c then 0 else 8
theorem errC_ok {n y h s c : Int} (g : okD n y h s c) : errC n y h s c = 0 := if_pos g
theorem errC_no {n y h s c : Int} (g : ¬ okD n y h s c) : errC n y h s c = 8 := if_neg g
theorem errC_two (n y h s c : Int) : errC n y h s c = 0 ∧ okD n y h s c ∨ errC n y h s c = 8 ∧ ¬ okD n y h s c := by
  by_cases g : okD n y h s c
  · exact Or.inl ⟨errC_ok g, g⟩
  · exact Or.inr ⟨errC_no g, g⟩
/-- Comparing numbers. -/
def sgn (a b : Int) : Int := if a < b then -1 else if b < a then 1 else 0
theorem sgn_lt {a b : Int} (h : a < b) : sgn a b = -1 := if_pos h
theorem sgn_gt {a b : Int} (h : b < a) : sgn a b = 1 := by unfold sgn; rw [if_neg (by omega), if_pos h]
theorem sgn_eq {a b : Int} (h : a = b) : sgn a b = 0 := by unfold sgn; rw [if_neg (by omega), if_neg (by omega)]
theorem sgn_bd (a b : Int) : -1 ≤ sgn a b ∧ sgn a b ≤ 1 := by unfold sgn; split <;> (try split) <;> omega
/-- The first one that is not 0. -/
def orr (a b : Int) : Int := if a = 0 then b else a
def seqAt (l : List Int) (j : Nat) : Int := l.getD j 0
def orRem (f : Nat → Int) (j : Nat) : Nat → Int
  | 0 => 0
  | r + 1 => if f j = 0 then orRem f (j + 1) r else f j
theorem or_six (a b c d e f : Int) : orRem (seqAt [a, b, c, d, e, f]) 0 6 = orr a (orr b (orr c (orr d (orr e f)))) := by
  simp [orRem, seqAt, orr]
  repeat' split
  all_goals simp_all
def min1 (a : Int) : Int := if 1 ≤ a then 1 else a
/-- Comparing designations, as the program does it. -/
def cmpP (n y h s c n' y' h' s' c' : Int) : Int := orr (-(sgn (min1 n) (min1 n'))) (orr (sgn n n') (orr (sgn y y') (orr (sgn h h') (orr (sgn c c') (sgn s s')))))
/-- The numbers that the reference compares. -/
def big (n : Int) : Int := if n = 0 then 15396336 else n
def cmpR (n y h s c n' y' h' s' c' : Int) : Int := orr (sgn (big n) (big n')) (orr (sgn y y') (orr (sgn h h') (orr (sgn c c') (sgn s s'))))
theorem cmp_same {n y h s c n' y' h' s' c' : Int} (g : okD n y h s c) (g' : okD n' y' h' s' c') : cmpP n y h s c n' y' h' s' c' = cmpR n y h s c n' y' h' s' c' := by
  have a : 0 ≤ n ∧ n ≤ 15396335 := by unfold okD at g; omega
  have b : 0 ≤ n' ∧ n' ≤ 15396335 := by unfold okD at g'; omega
  clear g g'
  unfold cmpP cmpR big min1
  by_cases h1 : n = 0
  · by_cases h2 : n' = 0
    · subst h1 h2
      simp [sgn, orr]
    · subst h1
      rw [sgn_lt (a := if 1 ≤ (0 : Int) then 1 else 0) (b := if 1 ≤ n' then 1 else n') (by rw [if_neg (by omega), if_pos (by omega)]; omega), sgn_gt (a := if (0 : Int) = 0 then 15396336 else 0) (b := if n' = 0 then 15396336 else n') (by rw [if_pos rfl, if_neg h2]; omega)]
      rfl
  · by_cases h2 : n' = 0
    · subst h2
      rw [sgn_gt (b := if 1 ≤ (0 : Int) then 1 else 0) (a := if 1 ≤ n then 1 else n) (by rw [if_neg (by omega), if_pos (by omega)]; omega), sgn_lt (b := if (0 : Int) = 0 then 15396336 else 0) (a := if n = 0 then 15396336 else n) (by rw [if_pos rfl, if_neg h1]; omega)]
      rfl
    · rw [sgn_eq (a := if 1 ≤ n then 1 else n) (b := if 1 ≤ n' then 1 else n') (by rw [if_pos (by omega), if_pos (by omega)]), if_neg h1, if_neg h2]
      rfl
/-- What Compare returns. -/
def CmpIs (n y h s c n' y' h' s' c' v k : Int) : Prop := (okD n y h s c ∧ okD n' y' h' s' c' ∧ v = cmpR n y h s c n' y' h' s' c' ∧ k = 0) ∨ (¬ (okD n y h s c ∧ okD n' y' h' s' c') ∧ v = 0 ∧ k = 8)
theorem CmpIs.uniq {n y h s c n' y' h' s' c' v k v' k' : Int} (a : CmpIs n y h s c n' y' h' s' c' v k) (b : CmpIs n y h s c n' y' h' s' c' v' k') : v = v' ∧ k = k' := by
  rcases a with ⟨a1, a2, a3, a4⟩ | ⟨a1, a2, a3⟩ <;> rcases b with ⟨b1, b2, b3, b4⟩ | ⟨b1, b2, b3⟩
  · exact ⟨a3.trans b3.symm, a4.trans b4.symm⟩
  · exact absurd ⟨a1, a2⟩ b1
  · exact absurd ⟨b1, b2⟩ a1
  · exact ⟨a2.trans b2.symm, a3.trans b3.symm⟩
theorem okD_bd {n y h s c : Int} (g : okD n y h s c) : 0 ≤ n ∧ n ≤ 15396335 := by unfold okD at g; omega
/-- The half-month letter of a date. -/
def halfLet (m d : Int) : Int := ordAt (2 * m.toNat - 2 + (if 15 < d then 1 else 0))
/-- What Half returns. -/
def HalfIs (m d v k : Int) : Prop := (1 ≤ m ∧ m ≤ 12 ∧ 1 ≤ d ∧ d ≤ 31 ∧ v = halfLet m d ∧ k = 0) ∨ (¬ (1 ≤ m ∧ m ≤ 12 ∧ 1 ≤ d ∧ d ≤ 31) ∧ v = 0 ∧ k = 2)
theorem HalfIs.uniq {m d v k v' k' : Int} (a : HalfIs m d v k) (b : HalfIs m d v' k') : v = v' ∧ k = k' := by
  rcases a with ⟨a1, a2, a3, a4, a5, a6⟩ | ⟨a1, a2, a3⟩ <;> rcases b with ⟨b1, b2, b3, b4, b5, b6⟩ | ⟨b1, b2, b3⟩
  · exact ⟨a5.trans b5.symm, a6.trans b6.symm⟩
  · exact absurd ⟨a1, a2, a3, a4⟩ b1
  · exact absurd ⟨b1, b2, b3, b4⟩ a1
  · exact ⟨a2.trans b2.symm, a3.trans b3.symm⟩
theorem or12 {m : Int} (a : 1 ≤ m) (b : m ≤ 12) : m = 1 ∨ m = 2 ∨ m = 3 ∨ m = 4 ∨ m = 5 ∨ m = 6 ∨ m = 7 ∨ m = 8 ∨ m = 9 ∨ m = 10 ∨ m = 11 ∨ m = 12 := by omega
/-- A list of designations, field by field. -/
structure Ls where
  N : Nat → Int
  Y : Nat → Int
  U : Nat → Int
  S : Nat → Int
  C : Nat → Int
def okL (L : Ls) (k : Nat) : Prop := okD (L.N k) (L.Y k) (L.U k) (L.S k) (L.C k)
def errL (L : Ls) (k : Nat) : Int := errC (L.N k) (L.Y k) (L.U k) (L.S k) (L.C k)
/-- The order of a designation within its half-month. -/
def codeL (L : Ls) (k : Nat) : Int := 25 * L.C k + placeI (L.S k)
def hitL (L : Ls) (y h : Int) (k : Nat) : Prop := L.N k = 0 ∧ L.Y k = y ∧ L.U k = h
instance (L : Ls) (y h : Int) (k : Nat) : Decidable (hitL L y h k) := by unfold hitL; infer_instance
/-- The order behind the designations of a half-month among the first ones. -/
def nextTo (L : Ls) (y h : Int) : Nat → Int
  | 0 => 0
  | k + 1 => if hitL L y h k then (if nextTo L y h k < codeL L k + 1 then codeL L k + 1 else nextTo L y h k) else nextTo L y h k
def okTo (L : Ls) (k : Nat) : Prop := ∀ j, j < k → okL L j
theorem okTo_0 (L : Ls) : okTo L 0 := fun j h => absurd h (by omega)
theorem okTo_s {L : Ls} {k : Nat} (h : okTo L k) (g : okL L k) : okTo L (k + 1) := fun j hj => by
  by_cases e : j = k
  · subst e; exact g
  · exact h j (by omega)
theorem code_bd {L : Ls} {k : Nat} (g : okL L k) (h0 : L.N k = 0) : 0 ≤ codeL L k ∧ codeL L k ≤ 15499 ∧ 0 ≤ L.C k ∧ L.C k ≤ 619 ∧ 0 ≤ placeI (L.S k) ∧ placeI (L.S k) < 25 := by
  unfold okL okD at g
  unfold codeL
  have hp : secP (L.S k) := by
    rcases g with g | g
    · omega
    · exact g.2.2.2.2.1
  have h1 := (secP_iff (L.S k)).1 hp
  have h2 : placeI (L.S k) < 25 := by unfold placeI; split <;> (try split) <;> omega
  have h3 : 0 ≤ L.C k ∧ L.C k ≤ 619 := by
    rcases g with g | g
    · omega
    · exact ⟨g.2.2.2.2.2.1, g.2.2.2.2.2.2⟩
  omega
theorem next_bd {L : Ls} {y h : Int} {k : Nat} (g : okTo L k) : 0 ≤ nextTo L y h k ∧ nextTo L y h k ≤ 15500 := by
  induction k with
  | zero => simp [nextTo]
  | succ k ih =>
    have ih := ih (fun j hj => g j (by omega))
    simp only [nextTo]
    by_cases c : hitL L y h k
    · rw [if_pos c]
      have := code_bd (g k (by omega)) c.1
      split <;> omega
    · rw [if_neg c]; exact ih
/-- What Next returns. -/
def NextIs (L : Ls) (n : Nat) (y h : Int) (rn ry rh rs rc k : Int) : Prop :=
  (¬ (1800 ≤ y ∧ y ≤ 2099 ∧ halfP h) ∧ rn = 0 ∧ ry = 0 ∧ rh = 0 ∧ rs = 0 ∧ rc = 0 ∧ k = 2) ∨
  ((1800 ≤ y ∧ y ≤ 2099 ∧ halfP h) ∧ 1000 < n ∧ rn = 0 ∧ ry = 0 ∧ rh = 0 ∧ rs = 0 ∧ rc = 0 ∧ k = 4) ∨
  ((1800 ≤ y ∧ y ≤ 2099 ∧ halfP h) ∧ n ≤ 1000 ∧ ¬ okTo L n ∧ rn = 0 ∧ ry = 0 ∧ rh = 0 ∧ rs = 0 ∧ rc = 0 ∧ k = 8) ∨
  ((1800 ≤ y ∧ y ≤ 2099 ∧ halfP h) ∧ n ≤ 1000 ∧ okTo L n ∧ 619 < nextTo L y h n / 25 ∧ rn = 0 ∧ ry = 0 ∧ rh = 0 ∧ rs = 0 ∧ rc = 0 ∧ k = 16) ∨
  ((1800 ≤ y ∧ y ≤ 2099 ∧ halfP h) ∧ n ≤ 1000 ∧ okTo L n ∧ nextTo L y h n / 25 ≤ 619 ∧ rn = 0 ∧ ry = y ∧ rh = h ∧ rs = ordAt (nextTo L y h n % 25).toNat ∧ rc = nextTo L y h n / 25 ∧ k = 0)
theorem NextIs.uniq {L : Ls} {n : Nat} {y h a1 a2 a3 a4 a5 a6 b1 b2 b3 b4 b5 b6 : Int} (a : NextIs L n y h a1 a2 a3 a4 a5 a6) (b : NextIs L n y h b1 b2 b3 b4 b5 b6) : a1 = b1 ∧ a2 = b2 ∧ a3 = b3 ∧ a4 = b4 ∧ a5 = b5 ∧ a6 = b6 := by
  rcases a with ⟨x, a⟩ | ⟨x, x2, a⟩ | ⟨x, x2, x3, a⟩ | ⟨x, x2, x3, x4, a⟩ | ⟨x, x2, x3, x4, a⟩ <;> rcases b with ⟨z, b⟩ | ⟨z, z2, b⟩ | ⟨z, z2, z3, b⟩ | ⟨z, z2, z3, z4, b⟩ | ⟨z, z2, z3, z4, b⟩
  all_goals first
    | exact absurd z x
    | exact absurd x z
    | exact absurd z3 x3
    | exact absurd x3 z3
    | omega
end Dp
end Go.Proofs.YtafeigpmldgifaaGreatDoor
/-
  Plain facts on the texts and packed forms of designations: digits, numerals, what a text is read as; no program in sight.
-/
namespace Go.Proofs.YtafeigpmldgifaaGreatDoor
namespace Dp
open Go.RowKit

/-- What one of the 62 digits stands for; 99: it is none. -/
def worthN (c : UInt8) : Nat := if 48 ≤ c.toNat ∧ c.toNat ≤ 57 then c.toNat - 48 else if 65 ≤ c.toNat ∧ c.toNat ≤ 90 then c.toNat - 55 else if 97 ≤ c.toNat ∧ c.toNat ≤ 122 then c.toNat - 61 else 99
def dig62 (n : Nat) : UInt8 := UInt8.ofNat (if n < 10 then 48 + n else if n < 36 then 55 + n else 61 + n)
theorem worth_dig : ∀ n, n < 62 → worthN (dig62 n) = n := by decide
theorem dig62_lt {n : Nat} (h : n < 10) : dig62 n = UInt8.ofNat (48 + n) := by unfold dig62; rw [if_pos h]
def valN (b : Nat) (l : List UInt8) : Nat := l.foldl (fun n c => n * b + worthN c) 0
def allW (b : Nat) (l : List UInt8) : Prop := ∀ c ∈ l, worthN c < b
instance (b : Nat) (l : List UInt8) : Decidable (allW b l) := by unfold allW; infer_instance
theorem valN_snoc (b : Nat) (l : List UInt8) (c : UInt8) : valN b (l ++ [c]) = valN b l * b + worthN c := by simp [valN]
theorem allW_snoc {b : Nat} {l : List UInt8} {c : UInt8} (h : allW b l) (h1 : worthN c < b) : allW b (l ++ [c]) := fun x hx => by
  rcases List.mem_append.1 hx with g | g
  · exact h x g
  · have := List.mem_singleton.1 g; subst this; exact h1
theorem allW_head {b : Nat} {l : List UInt8} {c : UInt8} (h : allW b (c :: l)) : worthN c < b := h c (List.mem_cons_self ..)
theorem allW_tail {b : Nat} {l : List UInt8} {c : UInt8} (h : allW b (c :: l)) : allW b l := fun x hx => h x (List.mem_cons_of_mem _ hx)
theorem allW_nil (b : Nat) : allW b [] := fun c hc => absurd hc (by simp)
theorem allW_cons {b : Nat} {l : List UInt8} {c : UInt8} (h1 : worthN c < b) (h : allW b l) : allW b (c :: l) := fun x hx => by
  rcases List.mem_cons.1 hx with rfl | g
  · exact h1
  · exact h x g
theorem dd_val (u : Nat) : valN 10 (Lib.decDigits u) = u ∧ allW 10 (Lib.decDigits u) := by
  induction u using Nat.strongRecOn with
  | _ u ih =>
    by_cases h : u < 10
    · rw [Lib.decDigits_one h, ← dig62_lt h]
      have e := worth_dig u (by omega)
      refine ⟨by unfold valN; simp only [List.foldl_cons, List.foldl_nil]; omega, fun c hc => ?_⟩
      rw [List.mem_singleton.1 hc]
      omega
    · rw [Lib.decDigits, dif_neg h, ← dig62_lt (Nat.mod_lt u (by omega))]
      obtain ⟨h1, h2⟩ := ih (u / 10) (by omega)
      have e := worth_dig (u % 10) (by omega)
      exact ⟨by rw [valN_snoc, h1]; omega, allW_snoc h2 (by omega)⟩
theorem itoa_nat (r : Nat) : Lib.itoa (r : Int) = Lib.decDigits r := by
  unfold Lib.itoa
  rw [if_neg (by omega), Int.toNat_natCast]
/-- A number with at least so many digits. -/
def padL (n : Int) (d : Nat) : List UInt8 := Lib.repeatL [48] (d - (Lib.itoa n).length) ++ Lib.itoa n
theorem rep_len (k : Nat) : (Lib.repeatL [48] k).length = k := by
  induction k with
  | zero => rfl
  | succ k ih => simp_all [Lib.repeatL]
theorem rep_val (b : Nat) (hb : 0 < b) (k : Nat) : valN b (Lib.repeatL [48] k) = 0 ∧ allW b (Lib.repeatL [48] k) := by
  induction k with
  | zero => exact ⟨rfl, fun c hc => by simp [Lib.repeatL] at hc⟩
  | succ k ih =>
    have e : Lib.repeatL [48] (k + 1) = 48 :: Lib.repeatL [48] k := rfl
    rw [e]
    refine ⟨?_, allW_cons hb ih.2⟩
    have := ih.1
    unfold valN at this ⊢
    rw [List.foldl_cons, show 0 * b + worthN 48 = 0 by rw [Nat.zero_mul]; decide]
    exact this
theorem pad_val (r d : Nat) : valN 10 (padL (r : Int) d) = r ∧ allW 10 (padL (r : Int) d) := by
  have h1 := dd_val r
  rw [← itoa_nat] at h1
  have h2 := rep_val 10 (by omega) (d - (Lib.itoa (r : Int)).length)
  refine ⟨?_, fun c hc => ?_⟩
  · unfold padL valN
    rw [List.foldl_append]
    have e2 := h2.1
    have e1 := h1.1
    unfold valN at e1 e2
    rw [e2, e1]
  · rcases List.mem_append.1 hc with g | g
    · exact h2.2 c g
    · exact h1.2 c g
theorem nd_le : ∀ (d r : Nat), r < 10 ^ (d + 1) → Lib.nDigits r ≤ d + 1
  | 0, r, h => by rw [Lib.nDigits_small (by simpa using h)]; exact Nat.le_refl _
  | d + 1, r, h => by
    by_cases g : r < 10
    · rw [Lib.nDigits_small g]; omega
    · rw [Lib.nDigits_big g]
      have := nd_le d (r / 10) (by rw [Nat.pow_succ] at h; omega)
      omega
theorem itoa_len (r d : Nat) (h : r < 10 ^ (d + 1)) : 1 ≤ (Lib.itoa (r : Int)).length ∧ (Lib.itoa (r : Int)).length ≤ d + 1 := by
  rw [itoa_nat, Lib.decDigits_length]
  exact ⟨Lib.nDigits_pos r, nd_le d r h⟩
theorem pad_size (r d : Nat) (h : r < 10 ^ (d + 1)) : (padL (r : Int) (d + 1)).length = d + 1 := by
  have h1 := itoa_len r d h
  unfold padL
  rw [List.length_append, rep_len]
  omega
theorem pad_none (r d : Nat) (h : d ≤ 1) : padL (r : Int) d = Lib.itoa (r : Int) := by
  have h1 := Lib.nDigits_pos r
  unfold padL
  rw [show d - (Lib.itoa (r : Int)).length = 0 by rw [itoa_nat, Lib.decDigits_length]; omega]
  rfl
/-- A designation. -/
structure Dg where
  n : Int
  y : Int
  h : Int
  s : Int
  c : Int
abbrev okG (d : Dg) : Prop := okD d.n d.y d.h d.s d.c
abbrev zeroG : Dg := ⟨0, 0, 0, 0, 0⟩
def b8 (x : Int) : UInt8 := UInt8.ofNat x.toNat
theorem b8_of {x : Int} (h0 : 0 ≤ x) (h1 : x < 256) : ((b8 x).toNat : Int) = x := by
  unfold b8
  rw [UInt8.toNat_ofNat']
  omega
theorem half_bd {h : Int} (g : halfP h) : 0 ≤ h ∧ h < 256 := by unfold halfP at g; omega
theorem sec_bd {h : Int} (g : secP h) : 0 ≤ h ∧ h < 256 := by unfold secP at g; omega
/-- The text of a designation. -/
def textG (d : Dg) : List UInt8 := if 0 < d.n then Lib.itoa d.n else Lib.itoa d.y ++ [32, b8 d.h, b8 d.s] ++ (if 0 < d.c then Lib.itoa d.c else [])
/-- A number of 620,000 and more is packed less these. -/
def lessL (n : Int) : Nat := (n - 620000).toNat
theorem lessL_is {n : Int} (h : 620000 ≤ n) : (lessL n : Int) = n - 620000 := by unfold lessL; omega
def bigL (m : Nat) : List UInt8 := [126, dig62 (m / 238328), dig62 (m / 3844 % 62), dig62 (m / 62 % 62), dig62 (m % 62)]
theorem bigL_is (m : Nat) (h : m < 14776336) : allW 62 [dig62 (m / 238328), dig62 (m / 3844 % 62), dig62 (m / 62 % 62), dig62 (m % 62)] ∧ valN 62 [dig62 (m / 238328), dig62 (m / 3844 % 62), dig62 (m / 62 % 62), dig62 (m % 62)] = m := by
  have a1 := worth_dig (m / 238328) (by omega)
  have a2 := worth_dig (m / 3844 % 62) (by omega)
  have a3 := worth_dig (m / 62 % 62) (by omega)
  have a4 := worth_dig (m % 62) (by omega)
  refine ⟨allW_cons (by omega) (allW_cons (by omega) (allW_cons (by omega) (allW_cons (by omega) (allW_nil _)))), ?_⟩
  simp only [valN, List.foldl_cons, List.foldl_nil, a1, a2, a3, a4]
  omega
/-- The packed form of a designation. -/
def packG (d : Dg) : List UInt8 :=
  if 620000 ≤ d.n then bigL (lessL d.n)
  else if 0 < d.n then dig62 (d.n.toNat / 10000) :: padL ((d.n.toNat % 10000 : Nat) : Int) 4
  else b8 (d.y / 100 + 55) :: (padL ((d.y.toNat % 100 : Nat) : Int) 2 ++ [b8 d.h, dig62 (d.c.toNat / 10), dig62 (d.c.toNat % 10), b8 d.s])
theorem len4 {l : List UInt8} (h : l.length = 4) : ∃ a b c e, l = [a, b, c, e] := by
  match l, h with
  | [a, b, c, e], _ => exact ⟨a, b, c, e, rfl⟩
theorem len2 {l : List UInt8} (h : l.length = 2) : ∃ a b, l = [a, b] := by
  match l, h with
  | [a, b], _ => exact ⟨a, b, rfl⟩
theorem text_shape {d : Dg} (g : okG d) :
    (d.y = 0 ∧ d.h = 0 ∧ d.s = 0 ∧ d.c = 0 ∧ 0 < d.n ∧ allW 10 (textG d) ∧ (valN 10 (textG d) : Int) = d.n ∧ 1 ≤ (textG d).length ∧ (textG d).length ≤ 8) ∨
    (d.n = 0 ∧ halfP d.h ∧ secP d.s ∧ ∃ a b c e r, textG d = a :: b :: c :: e :: 32 :: b8 d.h :: b8 d.s :: r ∧ allW 10 [a, b, c, e] ∧ (valN 10 [a, b, c, e] : Int) = d.y ∧ allW 10 r ∧ r.length ≤ 3 ∧ (valN 10 r : Int) = d.c) := by
  obtain ⟨n, y, h, s, c⟩ := d
  unfold okG okD at g
  simp only at g
  rcases g with ⟨g1, rfl, rfl, rfl, rfl, g2, g3⟩ | ⟨rfl, g1, g2, g3, g4, g5, g6⟩
  · left
    obtain ⟨m, rfl⟩ := Int.eq_ofNat_of_zero_le (show 0 ≤ n by omega)
    unfold textG
    rw [if_pos g2]
    have h1 := dd_val m
    have h2 := itoa_len m 7 (by omega)
    rw [← itoa_nat] at h1
    exact ⟨rfl, rfl, rfl, rfl, g2, h1.2, by rw [h1.1], h2.1, h2.2⟩
  · right
    obtain ⟨v, rfl⟩ := Int.eq_ofNat_of_zero_le (show 0 ≤ y by omega)
    obtain ⟨k, rfl⟩ := Int.eq_ofNat_of_zero_le g5
    have h1 := pad_val v 4
    have h2 := pad_size v 3 (by omega)
    have h3 : padL (v : Int) 4 = Lib.itoa (v : Int) := by
      unfold padL
      have : 4 ≤ (Lib.itoa (v : Int)).length := by
        rw [itoa_nat, Lib.decDigits_length]
        exact Nat.le_of_eq (Lib.nDigits_unique 3 v (by omega) (by omega)).symm
      rw [show 4 - (Lib.itoa (v : Int)).length = 0 by omega]
      rfl
    rw [h3] at h1 h2
    obtain ⟨a, b, e, f, ee⟩ := len4 h2
    rw [ee] at h1
    refine ⟨rfl, g3, g4, a, b, e, f, if 0 < (k : Int) then Lib.itoa (k : Int) else [], ?_, h1.2, by rw [h1.1], ?_⟩
    · unfold textG
      rw [if_neg (by simp), ee]
      rfl
    · by_cases hk : 0 < (k : Int)
      · rw [if_pos hk]
        have h4 := dd_val k
        have h5 := itoa_len k 2 (by omega)
        rw [← itoa_nat] at h4
        exact ⟨h4.2, h5.2, by rw [h4.1]⟩
      · rw [if_neg hk]
        refine ⟨allW_nil 10, by simp, ?_⟩
        simp only [valN, List.foldl_nil]
        omega
theorem pack_shape {d : Dg} (g : okG d) :
    (d.y = 0 ∧ d.h = 0 ∧ d.s = 0 ∧ d.c = 0 ∧ ∃ a b c e, packG d = [126, a, b, c, e] ∧ allW 62 [a, b, c, e] ∧ (valN 62 [a, b, c, e] : Int) + 620000 = d.n) ∨
    (d.y = 0 ∧ d.h = 0 ∧ d.s = 0 ∧ d.c = 0 ∧ ∃ x a b c e, packG d = [x, a, b, c, e] ∧ worthN x < 62 ∧ allW 10 [a, b, c, e] ∧ 10000 * (worthN x : Int) + (valN 10 [a, b, c, e] : Int) = d.n) ∨
    (d.n = 0 ∧ halfP d.h ∧ secP d.s ∧ ∃ x a b f e, packG d = [x, a, b, b8 d.h, f, e, b8 d.s] ∧ 73 ≤ x.toNat ∧ x.toNat ≤ 75 ∧ allW 10 [a, b] ∧ worthN f < 62 ∧ worthN e < 10 ∧ 100 * (18 + ((x.toNat : Int) - 73)) + (valN 10 [a, b] : Int) = d.y ∧ 10 * (worthN f : Int) + worthN e = d.c) := by
  obtain ⟨n, y, h, s, c⟩ := d
  unfold okG okD at g
  simp only at g
  rcases g with ⟨g1, rfl, rfl, rfl, rfl, g2, g3⟩ | ⟨rfl, g1, g2, g3, g4, g5, g6⟩
  · obtain ⟨m, rfl⟩ := Int.eq_ofNat_of_zero_le (show 0 ≤ n by omega)
    by_cases hl : 620000 ≤ (m : Int)
    · left
      have hm := lessL_is hl
      have hb := bigL_is (lessL m) (by omega)
      refine ⟨rfl, rfl, rfl, rfl, _, _, _, _, ?_, hb.1, ?_⟩
      · unfold packG
        rw [if_pos hl]
        rfl
      · rw [hb.2, hm]
        show (m : Int) - 620000 + 620000 = (m : Int)
        omega
    · right; left
      have h1 := pad_val (m % 10000) 4
      have h2 := pad_size (m % 10000) 3 (by omega)
      obtain ⟨a, b, e, f, ee⟩ := len4 h2
      rw [ee] at h1
      have h3 := worth_dig (m / 10000) (by omega)
      refine ⟨rfl, rfl, rfl, rfl, dig62 (m / 10000), a, b, e, f, ?_, by omega, h1.2, by rw [h1.1, h3]; show _ = (m : Int); omega⟩
      unfold packG
      rw [if_neg hl, if_pos g2]
      simp only [Int.toNat_natCast]
      rw [ee]
  · right; right
    obtain ⟨v, rfl⟩ := Int.eq_ofNat_of_zero_le (show 0 ≤ y by omega)
    obtain ⟨k, rfl⟩ := Int.eq_ofNat_of_zero_le g5
    have h1 := pad_val (v % 100) 2
    have h2 := pad_size (v % 100) 1 (by omega)
    obtain ⟨a, b, ee⟩ := len2 h2
    rw [ee] at h1
    have hx := b8_of (x := (v : Int) / 100 + 55) (by omega) (by omega)
    have hf := worth_dig (k / 10) (by omega)
    have he := worth_dig (k % 10) (by omega)
    refine ⟨rfl, g3, g4, b8 ((v : Int) / 100 + 55), a, b, dig62 (k / 10), dig62 (k % 10), ?_, by omega, by omega, h1.2, by omega, by omega, by rw [h1.1]; show _ = (v : Int); omega, by show _ = (k : Int); omega⟩
    unfold packG
    rw [if_neg (by simp), if_neg (by simp)]
    simp only [Int.toNat_natCast]
    rw [ee]
    rfl
/-- The number that decimal digits stand for, or -1: they are none, or too many. -/
def valR (l : List UInt8) : Int := if 1 ≤ l.length ∧ l.length ≤ 8 ∧ allW 10 l then (valN 10 l : Int) else -1
theorem valR_yes {l : List UInt8} (h1 : 1 ≤ l.length) (h2 : l.length ≤ 8) (h : allW 10 l) : valR l = valN 10 l := if_pos ⟨h1, h2, h⟩
theorem valR_no {l : List UInt8} (h : ¬ allW 10 l) : valR l = -1 := if_neg (fun g => h g.2.2)
theorem not_all {b : Nat} {l : List UInt8} {c : UInt8} (hc : c ∈ l) (h : ¬ worthN c < b) : ¬ allW b l := fun g => h (g c hc)
/-- The designation that a text is, if it is one. -/
def candT (l : List UInt8) : Dg := if 0 ≤ valR l then ⟨valR l, 0, 0, 0, 0⟩ else if l.length < 7 then zeroG else ⟨0, valR (l.take 4), ((l.getD 5 0).toNat : Int), ((l.getD 6 0).toNat : Int), if 7 < l.length then valR (l.drop 7) else 0⟩
theorem cand_text {d : Dg} (g : okG d) : candT (textG d) = d := by
  rcases text_shape g with ⟨h1, h2, h3, h4, h5, h6, h7, h8, h9⟩ | ⟨h1, h2, h3, a, b, c, e, r, h4, h5, h6, h7, h8, h9⟩
  · unfold candT
    rw [valR_yes h8 h9 h6, if_pos (by omega), h7]
    obtain ⟨n, y, h, s, c⟩ := d
    simp only at h1 h2 h3 h4
    rw [h1, h2, h3, h4]
  · unfold candT
    rw [h4, valR_no (not_all (c := 32) (by simp) (by decide)), if_neg (by omega), if_neg (by simp)]
    obtain ⟨n, y, h, s, k⟩ := d
    simp only at h1 h2 h3 h4 h6 h9
    have e1 := b8_of (half_bd h2).1 (half_bd h2).2
    have e2 := b8_of (sec_bd h3).1 (sec_bd h3).2
    have e3 : valR [a, b, c, e] = y := by rw [valR_yes (by simp) (by simp) h5, h6]
    simp only [List.take_succ_cons, List.take_zero, List.drop_succ_cons, List.drop_zero, List.getD_cons_succ, List.getD_cons_zero, List.length_cons, e1, e2, e3, h1]
    by_cases hr : r = []
    · subst hr
      simp only [valN, List.foldl_nil, List.length_nil] at h9 ⊢
      rw [if_neg (by omega), ← h9]
      rfl
    · have : r.length ≠ 0 := by simpa using hr
      rw [if_pos (by omega), valR_yes (by omega) (by omega) h7, h9]
def worthI (c : UInt8) : Int := if worthN c < 62 then (worthN c : Int) else -1
/-- The designation that a packed form is, if it is one. -/
def candU (l : List UInt8) : Dg :=
  match l with
  | [x, a, b, c, e] => if x = 126 then ⟨62 * (62 * (62 * worthI a + worthI b) + worthI c) + worthI e + 620000, 0, 0, 0, 0⟩ else ⟨10000 * worthI x + valR [a, b, c, e], 0, 0, 0, 0⟩
  | [x, a, b, h, f, e, s] => ⟨0, 1800 + 100 * (((x.toNat : Int) - 73) % 256) + valR [a, b], (h.toNat : Int), (s.toNat : Int), 10 * worthI f + worthI e⟩
  | _ => zeroG
theorem cand_pack {d : Dg} (g : okG d) : candU (packG d) = d := by
  rcases pack_shape g with ⟨h1, h2, h3, h4, a, b, c, e, h5, h6, h7⟩ | ⟨h1, h2, h3, h4, x, a, b, c, e, h5, h6, h7, h8⟩ | ⟨h1, h2, h3, x, a, b, f, e, h4, h5, h6, h7, h8, h9, h10, h11⟩
  · rw [h5]
    obtain ⟨n, y, h, s, k⟩ := d
    simp only at h1 h2 h3 h4 h7
    have w1 := allW_head h6
    have w2 := allW_head (allW_tail h6)
    have w3 := allW_head (allW_tail (allW_tail h6))
    have w4 := allW_head (allW_tail (allW_tail (allW_tail h6)))
    simp only [candU, if_pos, worthI, if_pos w1, if_pos w2, if_pos w3, if_pos w4, h1, h2, h3, h4]
    simp only [valN, List.foldl_cons, List.foldl_nil] at h7
    congr 1
    omega
  · rw [h5]
    obtain ⟨n, y, h, s, k⟩ := d
    simp only at h1 h2 h3 h4 h8
    have hx : x ≠ 126 := by rintro rfl; exact absurd h6 (by decide)
    simp only [candU, if_neg hx, worthI, if_pos h6, h1, h2, h3, h4]
    rw [valR_yes (by simp) (by simp) h7, h8]
  · rw [h4]
    obtain ⟨n, y, h, s, k⟩ := d
    simp only at h1 h2 h3 h10 h11
    have e1 := b8_of (half_bd h2).1 (half_bd h2).2
    have e2 := b8_of (sec_bd h3).1 (sec_bd h3).2
    simp only [candU, worthI, if_pos h8, if_pos (show worthN e < 62 by omega), h1, e1, e2]
    rw [valR_yes (by simp) (by simp) h7, h11]
    congr 1
    omega
/-- What Parse returns. -/
def ParseIs (l : List UInt8) (d : Dg) (k : Int) : Prop := (okG d ∧ textG d = l ∧ k = 0) ∨ ((∀ e, okG e → textG e ≠ l) ∧ d = zeroG ∧ k = 12)
/-- What Unpack returns. -/
def UnpackIs (l : List UInt8) (d : Dg) (k : Int) : Prop := (okG d ∧ packG d = l ∧ k = 0) ∨ ((∀ e, okG e → packG e ≠ l) ∧ d = zeroG ∧ k = 12)
theorem text_inj {d e : Dg} (g : okG d) (g' : okG e) (h : textG d = textG e) : d = e := by rw [← cand_text g, h, cand_text g']
theorem pack_inj {d e : Dg} (g : okG d) (g' : okG e) (h : packG d = packG e) : d = e := by rw [← cand_pack g, h, cand_pack g']
theorem ParseIs.uniq {l : List UInt8} {d e : Dg} {k j : Int} (a : ParseIs l d k) (b : ParseIs l e j) : d = e ∧ k = j := by
  rcases a with ⟨a1, a2, a3⟩ | ⟨a1, a2, a3⟩ <;> rcases b with ⟨b1, b2, b3⟩ | ⟨b1, b2, b3⟩
  · exact ⟨text_inj a1 b1 (a2.trans b2.symm), a3.trans b3.symm⟩
  · exact absurd a2 (b1 _ a1)
  · exact absurd b2 (a1 _ b1)
  · exact ⟨a2.trans b2.symm, a3.trans b3.symm⟩
theorem UnpackIs.uniq {l : List UInt8} {d e : Dg} {k j : Int} (a : UnpackIs l d k) (b : UnpackIs l e j) : d = e ∧ k = j := by
  rcases a with ⟨a1, a2, a3⟩ | ⟨a1, a2, a3⟩ <;> rcases b with ⟨b1, b2, b3⟩ | ⟨b1, b2, b3⟩
  · exact ⟨pack_inj a1 b1 (a2.trans b2.symm), a3.trans b3.symm⟩
  · exact absurd a2 (b1 _ a1)
  · exact absurd b2 (a1 _ b1)
  · exact ⟨a2.trans b2.symm, a3.trans b3.symm⟩
/-- A candidate: whatever has this text is it. -/
def CandT (l : List UInt8) (d : Dg) : Prop := ∀ e, okG e → textG e = l → e = d
def CandU (l : List UInt8) (d : Dg) : Prop := ∀ e, okG e → packG e = l → e = d
theorem ParseIs.yes {l : List UInt8} {d : Dg} (g : okG d) (h : textG d = l) : ParseIs l d 0 := Or.inl ⟨g, h, rfl⟩
theorem ParseIs.no {l : List UInt8} {d : Dg} (hc : CandT l d) (h : ¬ (okG d ∧ textG d = l)) : ParseIs l zeroG 12 := Or.inr ⟨fun e g t => by have := hc e g t; subst this; exact h ⟨g, t⟩, rfl, rfl⟩
theorem UnpackIs.yes {l : List UInt8} {d : Dg} (g : okG d) (h : packG d = l) : UnpackIs l d 0 := Or.inl ⟨g, h, rfl⟩
theorem UnpackIs.no {l : List UInt8} {d : Dg} (hc : CandU l d) (h : ¬ (okG d ∧ packG d = l)) : UnpackIs l zeroG 12 := Or.inr ⟨fun e g t => by have := hc e g t; subst this; exact h ⟨g, t⟩, rfl, rfl⟩
theorem candT_is (l : List UInt8) : CandT l (candT l) := fun e g t => by rw [← t, cand_text g]
theorem candU_is (l : List UInt8) : CandU l (candU l) := fun e g t => by rw [← t, cand_pack g]
/-- What whole returns: the number in the digits of a string. -/
structure WholeIs (b : Nat) (l : List UInt8) (n : Int) (ok : Bool) : Prop where
  lo : 0 ≤ n
  hi : n ≤ 1000000000
  yes : ok = true → allW b l ∧ l ≠ [] ∧ n = valN b l
  no : ok = false → n = 0 ∧ ¬ (allW b l ∧ l ≠ [] ∧ valN b l ≤ 15396335)
theorem WholeIs.known {b : Nat} {l : List UInt8} {n : Int} {ok : Bool} (g : WholeIs b l n ok) (h1 : allW b l) (h2 : l ≠ []) (h3 : valN b l ≤ 15396335) : n = valN b l ∧ ok = true := by
  cases ok with
  | true => exact ⟨(g.yes rfl).2.2, rfl⟩
  | false => exact absurd ⟨h1, h2, h3⟩ (g.no rfl).2
theorem WholeIs.empty {b : Nat} {n : Int} {ok : Bool} (g : WholeIs b [] n ok) : n = 0 := by
  cases ok with
  | true => exact absurd rfl (g.yes rfl).2.1
  | false => exact (g.no rfl).1
theorem prog_num {l : List UInt8} {n : Int} (w : WholeIs 10 l n true) : CandT l ⟨n, 0, 0, 0, 0⟩ := fun d g t => by
  have hy := w.yes rfl
  rcases text_shape g with ⟨h1, h2, h3, h4, h5, h6, h7, h8, h9⟩ | ⟨h1, h2, h3, a, b, c, e, r, h4, h5, h6, h7, h8, h9⟩
  · rw [t] at h7
    obtain ⟨n', y, h, s, c⟩ := d
    simp only at h1 h2 h3 h4 h7
    rw [h1, h2, h3, h4, hy.2.2, h7]
  · rw [t] at h4
    exact absurd hy.1 (not_all (c := 32) (by rw [h4]; simp) (by decide))
theorem prog_not {l : List UInt8} {n : Int} (w : WholeIs 10 l n false) {d : Dg} (g : okG d) (t : textG d = l) :
    d.n = 0 ∧ halfP d.h ∧ secP d.s ∧ ∃ a b c e r, l = a :: b :: c :: e :: 32 :: b8 d.h :: b8 d.s :: r ∧ allW 10 [a, b, c, e] ∧ (valN 10 [a, b, c, e] : Int) = d.y ∧ allW 10 r ∧ r.length ≤ 3 ∧ (valN 10 r : Int) = d.c := by
  have hb := okD_bd g
  rcases text_shape g with ⟨h1, h2, h3, h4, h5, h6, h7, h8, h9⟩ | h
  · rw [t] at h6 h7 h8
    exact absurd ⟨h6, by intro e; rw [e] at h8; simp at h8, by omega⟩ (w.no rfl).2
  · rw [t] at h
    exact h
theorem prog_none {l : List UInt8} {n : Int} (w : WholeIs 10 l n false) (h7 : l.length < 7) : CandT l zeroG := fun d g t => by
  obtain ⟨_, _, _, a, b, c, e, r, h4, _⟩ := prog_not w g t
  rw [h4] at h7
  simp only [List.length_cons] at h7
  omega
theorem prog_prov {l : List UInt8} {n y c : Int} {o1 o2 : Bool} (w : WholeIs 10 l n false) (w1 : WholeIs 10 (l.take 4) y o1) (w2 : WholeIs 10 (l.drop 7) c o2) :
    CandT l ⟨0, y, ((l.getD 5 0).toNat : Int), ((l.getD 6 0).toNat : Int), c⟩ := fun d g t => by
  obtain ⟨h1, h2, h3, a, b, c', e, r, h4, h5, h6, h7, h8, h9⟩ := prog_not w g t
  have e1 := b8_of (half_bd h2).1 (half_bd h2).2
  have e2 := b8_of (sec_bd h3).1 (sec_bd h3).2
  rw [h4] at w1 w2 ⊢
  simp only [List.take_succ_cons, List.take_zero, List.drop_succ_cons, List.drop_zero] at w1 w2
  have hbd : d.y ≤ 2099 ∧ d.c ≤ 619 := by unfold okG okD at g; omega
  have y1 := w1.known h5 (by simp) (by omega)
  have c1 : c = d.c := by
    by_cases hr : r = []
    · subst hr
      rw [w2.empty, ← h9]
      rfl
    · rw [(w2.known h7 hr (by omega)).1, h9]
  simp only [List.getD_cons_succ, List.getD_cons_zero]
  obtain ⟨n', y', h, s, k⟩ := d
  simp only at h1 h6 e1 e2 c1
  rw [e1, e2, c1, y1.1, h6, h1]
/-- The place of a byte in "IJK". -/
def idxC (x : Int) : Int := if x = 73 then 0 else if x = 74 then 1 else if x = 75 then 2 else -1
theorem unp_7 {l : List UInt8} {year tens ones : Int} {o1 o2 o3 : Bool} (h7 : l.length = 7) (w1 : WholeIs 10 [l.getD 1 0, l.getD 2 0] year o1) (w2 : WholeIs 62 [l.getD 4 0] tens o2) (w3 : WholeIs 10 [l.getD 5 0] ones o3) :
    CandU l ⟨0, 100 * (18 + idxC ((l.getD 0 0).toNat : Int)) + year, ((l.getD 3 0).toNat : Int), ((l.getD 6 0).toNat : Int), 10 * tens + ones⟩ := fun d g t => by
  rcases pack_shape g with ⟨h1, h2, h3, h4, a, b, c, e, h5, h6, _⟩ | ⟨h1, h2, h3, h4, x, a, b, c, e, h5, h6, _, h8⟩ | ⟨h1, h2, h3, x, a, b, f, e, h4, h5, h6, h7, h8, h9, h10, h11⟩
  · rw [← t, h5] at h7; simp at h7
  · rw [← t, h5] at h7; simp at h7
  · rw [t] at h4
    have e1 := b8_of (half_bd h2).1 (half_bd h2).2
    have e2 := b8_of (sec_bd h3).1 (sec_bd h3).2
    rw [h4] at w1 w2 w3 ⊢
    simp only [List.getD_cons_succ, List.getD_cons_zero] at w1 w2 w3 ⊢
    have hi : idxC (x.toNat : Int) = (x.toNat : Int) - 73 := by
      unfold idxC
      split
      · omega
      · split
        · omega
        · rw [if_pos (by omega)]; omega
    have hbd : d.y ≤ 2099 := by unfold okG okD at g; omega
    have v1 := w1.known h7 (by simp) (by omega)
    have s2 : allW 62 [f] := allW_cons h8 (allW_nil _)
    have s3 : allW 10 [e] := allW_cons h9 (allW_nil _)
    have t2 : valN 62 [f] = worthN f := by simp [valN]
    have t3 : valN 10 [e] = worthN e := by simp [valN]
    have v2 := w2.known s2 (by simp) (by omega)
    have v3 := w3.known s3 (by simp) (by omega)
    obtain ⟨n', y', h, s, k⟩ := d
    simp only at h1 h10 h11 e1 e2
    rw [e1, e2, hi, v1.1, v2.1, v3.1, t2, t3, h10, h11, h1]
theorem unp_tilde {l : List UInt8} {n : Int} (h5 : l.length = 5) (h0 : l.getD 0 0 = 126) (w : WholeIs 62 (l.drop 1) n true) : CandU l ⟨n + 620000, 0, 0, 0, 0⟩ := fun d g t => by
  have hy := w.yes rfl
  rcases pack_shape g with ⟨h1, h2, h3, h4, a, b, c, e, h5, h6, h7⟩ | ⟨h1, h2, h3, h4, x, a, b, c, e, h5, h6, h7, h8⟩ | ⟨h1, h2, h3, x, a, b, f, e, h4, _⟩
  · rw [t] at h5
    rw [h5] at hy
    obtain ⟨n', y', h, s, k⟩ := d
    simp only at h1 h2 h3 h4 h7
    simp only [List.drop_succ_cons, List.drop_zero] at hy
    rw [hy.2.2, h7, h1, h2, h3, h4]
  · rw [t] at h5
    rw [h5] at h0
    simp only [List.getD_cons_zero] at h0
    subst h0
    exact absurd h6 (by decide)
  · rw [← t, h4] at h5; simp at h5
theorem unp_low {l : List UInt8} {n high low : Int} {ok o1 o2 : Bool} (h5 : l.length = 5) (w : WholeIs 62 (l.drop 1) n ok) (h0 : ¬ (l.getD 0 0 = 126 ∧ ok = true)) (w1 : WholeIs 62 (l.take 1) high o1) (w2 : WholeIs 10 (l.drop 1) low o2) :
    CandU l ⟨10000 * high + low, 0, 0, 0, 0⟩ := fun d g t => by
  have hb := okD_bd g
  rcases pack_shape g with ⟨h1, h2, h3, h4, a, b, c, e, h5, h6, h7⟩ | ⟨h1, h2, h3, h4, x, a, b, c, e, h5, h6, h7, h8⟩ | ⟨h1, h2, h3, x, a, b, f, e, h4, _⟩
  · rw [t] at h5
    rw [h5] at w h0
    exact absurd ⟨rfl, (w.known h6 (by simp) (by simp only [List.drop_succ_cons, List.drop_zero]; omega)).2⟩ h0
  · rw [t] at h5
    rw [h5] at w1 w2
    simp only [List.drop_succ_cons, List.drop_zero, List.take_succ_cons, List.take_zero] at w1 w2
    have s1 : allW 62 [x] := allW_cons h6 (allW_nil _)
    have t1 : valN 62 [x] = worthN x := by simp [valN]
    have v1 := w1.known s1 (by simp) (by omega)
    have v2 := w2.known h7 (by simp) (by omega)
    obtain ⟨n', y', h, s, k⟩ := d
    simp only at h1 h2 h3 h4 h8
    rw [v1.1, v2.1, t1, h8, h1, h2, h3, h4]
  · rw [← t, h4] at h5; simp at h5
theorem unp_none {l : List UInt8} (h5 : l.length ≠ 5) (h7 : l.length ≠ 7) : CandU l zeroG := fun d g t => by
  rcases pack_shape g with ⟨h1, h2, h3, h4, a, b, c, e, h, _⟩ | ⟨h1, h2, h3, h4, x, a, b, c, e, h, _⟩ | ⟨h1, h2, h3, x, a, b, f, e, h, _⟩
  · rw [← t, h] at h5; simp at h5
  · rw [← t, h] at h5; simp at h5
  · rw [← t, h] at h7; simp at h7
theorem prog_small {l : List UInt8} {n : Int} (w : WholeIs 10 l n false) (h7 : ¬ 7 ≤ l.length) : CandT l zeroG := prog_none w (by omega)
end Dp
end Go.Proofs.YtafeigpmldgifaaGreatDoor
/-
  Plain laws: ToUtc and FromUtc are inverse, and later times have later dates.
-/
namespace Go.Proofs.YtafeigpmldgifaaGreatDoor
namespace Mp

theorem dec_abs {x : Int} (h : 0 ≤ x) : 60 * (x / 60) + x % 60 = x := by omega
/-- The date of a time is a date, and its time is the time. -/
theorem to_from {t n y m z k : Int} (hd : DayOf t n y m z k) :
    fromOk y m (n - mo y m + 1) (mins (t - bgv n y m) / 60) (mins (t - bgv n y m) % 60) ((t - bgv n y m) / 1000000 - 60 * mins (t - bgv n y m)) ((t - bgv n y m) % 1000000) ∧
    timeOf y m (n - mo y m + 1) (mins (t - bgv n y m) / 60) (mins (t - bgv n y m) % 60) ((t - bgv n y m) / 1000000 - 60 * mins (t - bgv n y m)) ((t - bgv n y m) % 1000000) = t := by
  have hw : wholeP y m (n - mo y m + 1) := ⟨hd.y1, by have := hd.y2; omega, hd.ym.m1, hd.ym.m12, by have := hd.ym.lo; omega, by have := hd.ym.hi; omega⟩
  have e : dn y m (n - mo y m + 1) = n := by rw [dn_mo]; omega
  have dl := day_len (z := z) (k := k) hw (by rw [e]; exact hd.zk)
  rw [e] at dl
  obtain ⟨p0, p1⟩ := hd.pass
  have hi := hd.hi
  obtain ⟨p, hp⟩ : ∃ p, t - bgv n y m = p := ⟨_, rfl⟩
  rw [hp] at p0 p1 ⊢
  have mb : 0 ≤ mins p ∧ mins p ≤ 1439 := by unfold mins; split <;> omega
  constructor
  · refine ⟨hw, by omega, by omega, by omega, by omega, ?_, by omega, by omega, ?_⟩
    · unfold mins; split <;> omega
    · by_cases c : p / 1000000 / 60 ≤ 1439
      · left
        have em : mins p = p / 1000000 / 60 := if_pos c
        rw [em]; omega
      · right
        have em : mins p = 1439 := if_neg c
        rw [em]
        refine ⟨by omega, by omega, by omega, ?_⟩
        rcases dl with ⟨a, _⟩ | ⟨_, b⟩
        · omega
        · exact b
  · unfold timeOf
    rw [e]
    omega
/-- The time of a date has the date. -/
theorem from_to {y m d h i s u : Int} (ok : fromOk y m d h i s u) : ∃ z k, DayOf (timeOf y m d h i s u) (dn y m d) y m z k ∧
    d = dn y m d - mo y m + 1 ∧ h = mins (timeOf y m d h i s u - bgv (dn y m d) y m) / 60 ∧ i = mins (timeOf y m d h i s u - bgv (dn y m d) y m) % 60 ∧
    s = (timeOf y m d h i s u - bgv (dn y m d) y m) / 1000000 - 60 * mins (timeOf y m d h i s u - bgv (dn y m d) y m) ∧ u = (timeOf y m d h i s u - bgv (dn y m d) y m) % 1000000 := by
  obtain ⟨hw, h1, h2, h3, h4, h5, h6, h7, h8⟩ := ok
  have wr := wholeP_range hw
  obtain ⟨z, k, z1, z2, zk⟩ := ym_ex (dn y m d + 1) (by omega) (by omega)
  have dl := day_len hw zk
  have ep : timeOf y m d h i s u - bgv (dn y m d) y m = (3600 * h + 60 * i + s) * 1000000 + u := by unfold timeOf; omega
  refine ⟨z, k, ⟨wholeP_ym hw, zk, by omega, ?_, by omega, by omega, hw.1, by have := hw.2.1; omega⟩, by rw [dn_mo]; omega, ?_⟩
  · rcases h8 with c | ⟨c1, c2, c3, c4⟩
    · rcases dl with ⟨a, _⟩ | ⟨a, _⟩ <;> omega
    · rcases dl with ⟨_, b⟩ | ⟨a, _⟩
      · exact absurd c4 b
      · omega
  · rw [ep]
    rcases h8 with c | ⟨c1, c2, c3, c4⟩
    · have em : mins ((3600 * h + 60 * i + s) * 1000000 + u) = 60 * h + i := by
        unfold mins
        rw [if_pos (by omega)]
        omega
      rw [em]; omega
    · subst c1 c2 c3
      have em : mins ((3600 * 23 + 60 * 59 + 60) * 1000000 + u) = 1439 := by
        unfold mins
        rw [if_neg (by omega)]
      rw [em]; omega
theorem ToIs.back {t y m d h i s u : Int} (a : ToIs t y m d h i s u 0) : FromIs y m d h i s u t 0 := by
  rcases a with ⟨_, _, _, _, _, _, _, _, c⟩ | ⟨a1, a2, n, z, k, hd, rfl, rfl, rfl, rfl, rfl, _⟩
  · omega
  · obtain ⟨b1, b2⟩ := to_from hd
    exact Or.inl ⟨b1, b2.symm, rfl⟩
theorem FromIs.back {t y m d h i s u : Int} (a : FromIs y m d h i s u t 0) : ToIs t y m d h i s u 0 := by
  rcases a with ⟨ok, rfl, _⟩ | ⟨_, _, c⟩
  · obtain ⟨z, k, hd, e1, e2, e3, e4, e5⟩ := from_to ok
    refine Or.inr ⟨?_, ?_, dn y m d, z, k, hd, e1, e2, e3, e4, e5, rfl⟩
    · have := bgv_mono hd.ym ym_72 hd.n1; have := hd.lo; omega
    · have := bgv_mono ym_00 hd.zk (by have := hd.n2; omega); have := hd.hi; omega
  · omega
theorem ToIs.code {t y m d h i s u c : Int} (a : ToIs t y m d h i s u c) : c = 0 ∨ (c = 16 ∧ y = 0 ∧ m = 0 ∧ d = 0 ∧ h = 0 ∧ i = 0 ∧ s = 0 ∧ u = 0) := by
  rcases a with ⟨_, b1, b2, b3, b4, b5, b6, b7, c⟩ | ⟨_, _, _, _, _, _, _, _, _, _, _, c⟩
  · exact Or.inr ⟨c, b1, b2, b3, b4, b5, b6, b7⟩
  · exact Or.inl c
theorem FromIs.code {t y m d h i s u c : Int} (a : FromIs y m d h i s u t c) : c = 0 ∨ (c = 2 ∧ t = 0) := by
  rcases a with ⟨_, _, c⟩ | ⟨_, b, c⟩
  · exact Or.inl c
  · exact Or.inr ⟨c, b⟩
theorem DayOf.bd {t n y m z k : Int} (h : DayOf t n y m z k) : -1000000000000000 ≤ t ∧ t ≤ 4000000000000000 := by
  have a := bgv_bd n y m (by have := h.n1; omega) (by have := h.n2; omega)
  have b := bgv_bd (n + 1) z k (by have := h.n1; omega) (by have := h.n2; omega)
  have := h.lo
  have := h.hi
  omega
theorem FromIs.bd {t y m d h i s u c : Int} (a : FromIs y m d h i s u t c) : -1000000000000000 ≤ t ∧ t ≤ 4000000000000000 := by
  rcases a with ⟨ok, rfl, _⟩ | ⟨_, rfl, c⟩
  · obtain ⟨z, k, hd, _⟩ := from_to ok
    exact hd.bd
  · omega
theorem ToIs.bd {t y m d h i s u : Int} (a : ToIs t y m d h i s u 0) : -1000000000000000 ≤ t ∧ t ≤ 4000000000000000 := a.back.bd
/-! ### The order of dates -/
def lexB : List Int → List Int → Bool
  | a :: l, b :: r => if a = b then lexB l r else decide (a < b)
  | _, _ => false
theorem ym_lt {n y m n' y' m' : Int} (h : IsYM n y m) (g : IsYM n' y' m') (lt : n < n') : y < y' ∨ y = y' ∧ (m < m' ∨ m = m' ∧ n - mo y m + 1 < n' - mo y' m' + 1) := by
  rcases Int.lt_trichotomy y y' with c | c | c
  · exact Or.inl c
  · subst c
    rcases Int.lt_trichotomy m m' with e | e | e
    · exact Or.inr ⟨rfl, Or.inl e⟩
    · subst e
      exact Or.inr ⟨rfl, Or.inr ⟨rfl, by omega⟩⟩
    · have := mo_le y (m' + 1) m (by have := g.m1; omega) (by omega)
      have := h.lo
      have := g.hi
      omega
  · have := mo_year_le (y' + 1) y (by omega)
    have := h.ylo
    have := g.yhi
    omega
theorem lex_lt {t u y m d h i s c y' m' d' h' i' s' c' : Int} (a : ToIs t y m d h i s c 0) (b : ToIs u y' m' d' h' i' s' c' 0) (lt : t < u) :
    lexB [y, m, d, h, i, s, c] [y', m', d', h', i', s', c'] = true := by
  rcases a with ⟨_, _, _, _, _, _, _, _, k⟩ | ⟨a1, a2, n, z, k, hd, rfl, rfl, rfl, rfl, rfl, _⟩
  · omega
  rcases b with ⟨_, _, _, _, _, _, _, _, k⟩ | ⟨b1, b2, n', z', k', hd', rfl, rfl, rfl, rfl, rfl, _⟩
  · omega
  have le : n ≤ n' := hd'.le hd.ym (by have := hd.lo; omega)
  rcases Int.lt_or_eq_of_le le with c | c
  · rcases ym_lt hd.ym hd'.ym c with e | ⟨rfl, e | ⟨rfl, e⟩⟩
    · simp only [lexB]; rw [if_neg (by omega)]; exact decide_eq_true e
    · simp only [lexB, if_true]; rw [if_neg (by omega)]; exact decide_eq_true e
    · simp only [lexB, if_true]; rw [if_neg (by omega)]; exact decide_eq_true e
  · subst c
    obtain ⟨rfl, rfl⟩ := ym_uniq hd.ym hd'.ym
    obtain ⟨p0, p1⟩ := hd.pass
    obtain ⟨q0, q1⟩ := hd'.pass
    obtain ⟨p, hp⟩ : ∃ p, t - bgv n y m = p := ⟨_, rfl⟩
    obtain ⟨q, hq⟩ : ∃ q, u - bgv n y m = q := ⟨_, rfl⟩
    rw [hp] at p0 p1 ⊢
    rw [hq] at q0 q1 ⊢
    have pq : p < q := by omega
    clear hp hq hd hd' a1 a2 b1 b2 lt le
    have em : mins p = if p / 1000000 / 60 ≤ 1439 then p / 1000000 / 60 else 1439 := rfl
    have en : mins q = if q / 1000000 / 60 ≤ 1439 then q / 1000000 / 60 else 1439 := rfl
    have ml : mins p ≤ mins q := by rw [em, en]; split <;> split <;> omega
    have hm : mins p < mins q ∨ mins p = mins q := by omega
    simp only [lexB, if_true]
    rcases hm with c | c
    · by_cases e1 : mins p / 60 = mins q / 60
      · rw [if_pos e1, if_neg (by omega)]; exact decide_eq_true (by omega)
      · rw [if_neg e1]; exact decide_eq_true (by omega)
    · rw [c, if_pos rfl, if_pos rfl]
      by_cases e1 : p / 1000000 - 60 * mins q = q / 1000000 - 60 * mins q
      · rw [if_pos e1, if_neg (by omega)]; exact decide_eq_true (by omega)
      · rw [if_neg e1]; exact decide_eq_true (by omega)
theorem lexB_irr : ∀ l : List Int, lexB l l = false
  | [] => rfl
  | a :: l => by simp only [lexB, if_true]; exact lexB_irr l
theorem lexB_asymm : ∀ l r : List Int, lexB l r = true → lexB r l = false
  | [], _, h => by simp [lexB] at h
  | _ :: _, [], h => by simp [lexB] at h
  | a :: l, b :: r, h => by
    simp only [lexB] at *
    by_cases e : a = b
    · subst e
      rw [if_pos rfl] at h ⊢
      exact lexB_asymm l r h
    · rw [if_neg e] at h
      rw [if_neg (fun x => e x.symm)]
      have := of_decide_eq_true h
      exact decide_eq_false (by omega)
theorem lex_is {t u y m d h i s c y' m' d' h' i' s' c' : Int} (a : ToIs t y m d h i s c 0) (b : ToIs u y' m' d' h' i' s' c' 0) :
    lexB [y, m, d, h, i, s, c] [y', m', d', h', i', s', c'] = decide (t < u) := by
  rcases Int.lt_trichotomy t u with e | e | e
  · rw [lex_lt a b e, decide_eq_true e]
  · subst e
    obtain ⟨rfl, rfl, rfl, rfl, rfl, rfl, rfl, _⟩ := a.uniq b
    rw [lexB_irr, decide_eq_false (by omega)]
  · rw [lexB_asymm _ _ (lex_lt b a e), decide_eq_false (by omega)]
theorem date_eq {t u y m d h i s c y' m' d' h' i' s' c' : Int} (a : ToIs t y m d h i s c 0) (b : ToIs u y' m' d' h' i' s' c' 0) :
    (y = y' ∧ m = m' ∧ d = d' ∧ h = h' ∧ i = i' ∧ s = s' ∧ c = c') ↔ t = u := by
  constructor
  · rintro ⟨rfl, rfl, rfl, rfl, rfl, rfl, rfl⟩
    exact (a.back.uniq b.back).1
  · rintro rfl
    obtain ⟨e1, e2, e3, e4, e5, e6, e7, _⟩ := a.uniq b
    exact ⟨e1, e2, e3, e4, e5, e6, e7⟩
/-! ### Months -/
/-- The first second of a month. -/
theorem first_ok {y m : Int} (h : 1972 ≤ y) (g : y < 2100) (a : 1 ≤ m) (b : m ≤ 12) : FromIs y m 1 0 0 0 0 (bgv (mo y m) y m) 0 := by
  have e : timeOf y m 1 0 0 0 0 = bgv (mo y m) y m := by unfold timeOf mo; omega
  refine Or.inl ⟨⟨⟨h, g, a, b, by omega, by have := mo_len y m a b; omega⟩, by omega, by omega, by omega, by omega, by omega, by omega, by omega, Or.inl (by omega)⟩, e.symm, rfl⟩
theorem first_no {y m : Int} (g : ¬ y < 2100) : FromIs y m 1 0 0 0 0 0 2 := Or.inr ⟨fun ⟨⟨_, h, _⟩, _⟩ => g h, rfl, rfl⟩
/-- A time, its month and the next one. -/
theorem month_of {t y m d h i s u : Int} (a : ToIs t y m d h i s u 0) : 1972 ≤ y ∧ y < 2100 ∧ 1 ≤ m ∧ m ≤ 12 ∧ bgv (mo y m) y m ≤ t ∧
    (∀ z k, (z = y ∧ k = m + 1 ∧ m < 12) ∨ (z = y + 1 ∧ k = 1 ∧ m = 12) → 
      t < bgv (mo z k) z k ∧ mo y m + 28 ≤ mo z k ∧ mo z k ≤ mo y m + 31 ∧ bgv (mo z k) z k = bgv (mo y m) y m + (mo z k - mo y m) * 86400000000 + (lps (12 * z + k - 1) - lps (12 * y + m - 1)) * 1000000) := by
  rcases a with ⟨_, _, _, _, _, _, _, _, k⟩ | ⟨a1, a2, n, z, k, hd, rfl, rfl, rfl, rfl, rfl, _⟩
  · omega
  have m1 := hd.ym.m1
  have m12 := hd.ym.m12
  refine ⟨hd.y1, by have := hd.y2; omega, m1, m12, ?_, ?_⟩
  · have := bgv_mono hd.ym (ym_first y m m1 m12) hd.ym.lo
    have := hd.lo
    omega
  · intro z' k' hz
    have ml := mo_len y m m1 m12
    have e : mo z' k' = mo y (m + 1) := by
      rcases hz with ⟨rfl, rfl, _⟩ | ⟨rfl, rfl, rfl⟩
      · rfl
      · exact (mo_13 y).symm
    have hk : 1 ≤ k' ∧ k' ≤ 12 := by omega
    refine ⟨hd.gt (ym_first z' k' hk.1 hk.2) (by rw [e]; exact hd.ym.hi), by omega, by omega, ?_⟩
    unfold bgv
    rw [e]
    omega
end Mp
end Go.Proofs.YtafeigpmldgifaaGreatDoor
/-
  Reading digits: number of the reference.
-/
namespace Go.Proofs.YtafeigpmldgifaaGreatDoor
namespace Ap
open Go.RowKit Lw

def numL (l : List UInt8) : Int := l.foldl (fun n c => 10 * n + ((c.toNat : Int) - 48)) 0
def allD (l : List UInt8) : Prop := ∀ c ∈ l, 48 ≤ (c.toNat : Int) ∧ (c.toNat : Int) ≤ 57
instance (l : List UInt8) : Decidable (allD l) := by unfold allD; infer_instance
/-- The number that a string of digits is, or -1. -/
def numV (l : List UInt8) : Int := if allD l then numL l else -1
theorem numL_snoc (l : List UInt8) (c : UInt8) : numL (l ++ [c]) = 10 * numL l + ((c.toNat : Int) - 48) := by simp [numL]
theorem allD_snoc {l : List UInt8} {c : UInt8} (h : allD l) (h1 : 48 ≤ (c.toNat : Int)) (h2 : (c.toNat : Int) ≤ 57) : allD (l ++ [c]) := fun x hx => by
  rcases List.mem_append.1 hx with g | g
  · exact h x g
  · have := List.mem_singleton.1 g; subst this; exact ⟨h1, h2⟩
theorem take_snoc (s : ByteArray) (k : Nat) (h : k < s.size) : s.data.toList.take (k + 1) = s.data.toList.take k ++ [s[k]] := by
  rw [List.take_succ_eq_append_getElem (by simpa using h)]; rfl
theorem take_all (s : ByteArray) (k : Nat) (h : ¬ k < s.size) : s.data.toList.take k = s.data.toList := List.take_of_length_le (by simp; omega)
theorem numL_bd (l : List UInt8) : ∀ k, k ≤ l.length → allD (l.take k) → 0 ≤ numL (l.take k) ∧ numL (l.take k) < 10 ^ k
  | 0, _, _ => by simp [numL]
  | k + 1, hk, h => by
    have e : l.take (k + 1) = l.take k ++ [l[k]] := List.take_succ_eq_append_getElem (by omega)
    rw [e] at h ⊢
    have ih := numL_bd l k (by omega) (fun x hx => h x (List.mem_append_left _ hx))
    have hc := h l[k] (List.mem_append_right _ (List.mem_singleton.2 rfl))
    rw [numL_snoc, Int.pow_succ]
    omega
theorem pow_17 : ∀ k : Nat, k < 18 → (10 : Int) ^ k ≤ 100000000000000000 := by decide
theorem numL_17 (s : ByteArray) (k : Nat) (hk : k ≤ s.size) (h18 : k < 18) (h : allD (s.data.toList.take k)) : 0 ≤ numL (s.data.toList.take k) ∧ numL (s.data.toList.take k) < 100000000000000000 := by
  have := numL_bd s.data.toList k (by simpa using hk) h
  have := pow_17 k h18
  omega
theorem numV_not (s : ByteArray) (k : Nat) (hk : k < s.size) (h : ¬ (48 ≤ (s[k].toNat : Int) ∧ (s[k].toNat : Int) ≤ 57)) : numV s.data.toList = -1 := by
  unfold numV
  rw [if_neg]
  intro g
  exact h (g s[k] (by
    have : s[k] = s.data.toList[k]'(by simpa using hk) := rfl
    rw [this]; exact List.getElem_mem _))
theorem numV_all (s : ByteArray) (k : Nat) (hk : ¬ k < s.size) (h : allD (s.data.toList.take k)) : numL (s.data.toList.take k) = numV s.data.toList := by
  rw [take_all s k hk] at h ⊢
  unfold numV
  rw [if_pos h]
theorem byte_bd (b : UInt8) : 0 ≤ (b.toNat : Int) ∧ (b.toNat : Int) < 256 := by have := b.toNat_lt; omega
theorem ret_i {a b : Int} (h : a = b) : Ending.returned (.int .i64 a) = .returned (.int .i64 b) := by rw [h]
theorem val_i {a b : Int} (h : a = b) : Value.int .i64 a = .int .i64 b := by rw [h]
end Ap
end Go.Proofs.YtafeigpmldgifaaGreatDoor
/-
  Powers of ten: package moment and the reference.
-/
namespace Go.Proofs.YtafeigpmldgifaaGreatDoor
namespace Ap
open Go.RowKit Lw

/-- A power of ten. -/
def tenI (k : Nat) : Int := (10 ^ k : Nat)
theorem tenI_s (k : Nat) : tenI (k + 1) = tenI k * 10 := by unfold tenI; rw [Nat.pow_succ]; omega
theorem tenI_bd : ∀ k : Nat, k ≤ 18 → 1 ≤ tenI k ∧ tenI k ≤ 1000000000000000000 := by decide
theorem tenI_17 : ∀ k : Nat, k < 18 → 1 ≤ tenI k ∧ tenI k ≤ 100000000000000000 := by decide

theorem val_u {a b : Int} (h : a = b) : Value.int .u64 a = .int .u64 b := by rw [h]
set_option maxHeartbeats 400000 in
theorem ten_any (n : Nat) (w : World) (hn : n ≤ 18) :
    Calls Tryz.prog 56 #[.int .i64 n] w fun e w' => e = .returned (.int .u64 (tenI n)) ∧ w = w' := by
  go_enter Tryz.func56, Tryz.ntmps56
  go_wp2
  go_loop [3, 5] (fun p i => ∃ k : Nat, k ≤ n ∧ i = .int .i64 k ∧ p = .int .u64 (tenI k)) (fun _ i => n - (intOf i).toNat)
  case atStart => exact ⟨0, Nat.zero_le _, rfl, rfl⟩
  case round =>
    obtain ⟨k, hk, rfl, rfl⟩ := hrel
    by_cases hlt : k < n
    · have nb := tenI_17 k (by omega)
      have HS := Lib.hid (tenI_s k)
      go_wp2
      go_round
      case rel => exact ⟨k + 1, by omega, by go_num, val_u HS.out.symm⟩
      case measure => simp [intOf]; omega
    · obtain rfl : k = n := by omega
      go_wp2
      go_ret
      exact ⟨rfl, rfl⟩

set_option maxHeartbeats 400000 in
theorem rten_any (n : Nat) (w : World) (hn : n ≤ 18) :
    Calls Tryz.prog 93 #[.int .i64 n] w fun e w' => e = .returned (.int .i64 (tenI n)) ∧ w = w' := by
  go_enter Tryz.func93, Tryz.ntmps93
  go_wp2
  go_loop [3, 4] (fun p i => ∃ k : Nat, k ≤ n ∧ i = .int .i64 k ∧ p = .int .i64 (tenI k)) (fun _ i => n - (intOf i).toNat)
  case atStart => exact ⟨0, Nat.zero_le _, rfl, rfl⟩
  case round =>
    obtain ⟨k, hk, rfl, rfl⟩ := hrel
    by_cases hlt : k < n
    · have nb := tenI_17 k (by omega)
      have HS := Lib.hid (show tenI (k + 1) = 10 * tenI k by rw [tenI_s]; omega)
      go_wp2
      go_round
      case rel => exact ⟨k + 1, by omega, by go_num, val_i HS.out.symm⟩
      case measure => simp [intOf]; omega
    · obtain rfl : k = n := by omega
      go_wp2
      go_ret
      exact ⟨rfl, rfl⟩
end Ap
end Go.Proofs.YtafeigpmldgifaaGreatDoor
/-
  The library contracts that this claim uses, laid at its program: cut out of what the shelf's own program writes.
-/
namespace Go.Proofs
open Go.Shelf
def Tryz.lays156_ren : Go.Shelf.Ren := ⟨fun | 156 => 10 | 165 => 18 | 166 => 9 | 169 => 12 | 240 => 17 | 241 => 27 | 276 => 26 | 277 => 44 | n => n, fun | 31 => 24 | 9 => 9 | 3 => 3 | 4 => 4 | 0 => 0 | 20 => 20 | 72 => 44 | 76 => 48 | 70 => 41 | 37 => 42 | 75 => 47 | 127 => 62 | 164 => 68 | 5 => 5 | 80 => 52 | n => n, fun | n => n⟩
theorem Tryz.lays156 : Go.Proofs.Lays.n156 Tryz.prog Tryz.lays156_ren := {
  mixed := by kernel_rfl
  f156 := Tryz.func10.trans (congrArg some (by kernel_rfl))
  f165 := Tryz.func18.trans (congrArg some (by kernel_rfl))
  f166 := Tryz.func9.trans (congrArg some (by kernel_rfl))
  f169 := Tryz.func12.trans (congrArg some (by kernel_rfl))
  f240 := Tryz.func17.trans (congrArg some (by kernel_rfl))
  f241 := Tryz.func27.trans (congrArg some (by kernel_rfl))
  f276 := Tryz.func26.trans (congrArg some (by kernel_rfl))
  f277 := Tryz.func44.trans (congrArg some (by kernel_rfl))
  t0 := Tryz.underlying0
  a0 := Tryz.isAgg0
  z0 := Tryz.sizeOf0
  v0 := Tryz.zeroValue0
  t3 := Tryz.underlying3
  a3 := Tryz.isAgg3
  z3 := Tryz.sizeOf3
  v3 := Tryz.zeroValue3
  t4 := Tryz.underlying4
  a4 := Tryz.isAgg4
  z4 := Tryz.sizeOf4
  v4 := Tryz.zeroValue4
  t9 := Tryz.underlying9
  a9 := Tryz.isAgg9
  z9 := Tryz.sizeOf9
  v9 := Tryz.zeroValue9
  t20 := Tryz.underlying20
  a20 := Tryz.isAgg20
  z20 := Tryz.sizeOf20
  v20 := Tryz.zeroValue20
  t31 := Tryz.underlying24
  a31 := Tryz.isAgg24
  z31 := Tryz.sizeOf24
  v31 := Tryz.zeroValue24
  t37 := Tryz.underlying42
  a37 := Tryz.isAgg42
  z37 := Tryz.sizeOf42
  v37 := Tryz.zeroValue42
  t70 := Tryz.underlying41
  a70 := Tryz.isAgg41
  z70 := Tryz.sizeOf41
  v70 := Tryz.zeroValue41
  t72 := Tryz.underlying44
  a72 := Tryz.isAgg44
  z72 := Tryz.sizeOf44
  v72 := Tryz.zeroValue44
  t75 := Tryz.underlying47
  a75 := Tryz.isAgg47
  z75 := Tryz.sizeOf47
  v75 := Tryz.zeroValue47
  t76 := Tryz.underlying48
  a76 := Tryz.isAgg48
  z76 := Tryz.sizeOf48
  v76 := Tryz.zeroValue48
  t127 := Tryz.underlying62
  a127 := Tryz.isAgg62
  z127 := Tryz.sizeOf62
  v127 := Tryz.zeroValue62
  t164 := Tryz.underlying68
  a164 := Tryz.isAgg68
  z164 := Tryz.sizeOf68
  v164 := Tryz.zeroValue68 }
theorem Tryz.Builder_Extra_156 : Builder.Extra Tryz.prog Tryz.lays156_ren := {
  sizeBuilder := by kernel_rfl
  liesBuilder := by kernel_rfl
  t5 := Tryz.underlying5
  a5 := Tryz.isAgg5
  z5 := Tryz.sizeOf5
  v5 := Tryz.zeroValue5
  infoByte := by kernel_rfl
  cellsByte := by kernel_rfl
  sizeByte := by kernel_rfl
  neB5 := by decide }
open Go.RowKit in
/-- strings.Join: "Join concatenates the elements of its first argument to create a single string. The separator string sep is placed between elements in the resulting string.": HOWEVER MANY ELEMENTS. Below the heap's end the world is as it was. (LAID: no walk: one application.) -/
theorem Tryz.strings_Join (bk o c : Nat) (xs : List ByteArray) (sep : ByteArray) (w : World) (hcells : ∀ (j : Nat) x, xs[j]? = some x → w.cell? ⟨bk, o + j, none⟩ = some (.string x)) (hbk : bk < w.heap.size) (hN : xs.length ≤ 140737488355328) (hcap : xs.length ≤ c) (hlen : (Lib.join (xs.map (·.data.toList)) sep.data.toList).length ≤ 140737488355328) :
    Calls Tryz.prog 10 #[.slice (some ⟨bk, o, none⟩) xs.length c, .string sep] w fun e w' => e = .returned (.string ⟨(Lib.join (xs.map (·.data.toList)) sep.data.toList).toArray⟩) ∧ Below w.heap.size w w' := Any.strings_Join Tryz.lays156 Tryz.Builder_Extra_156 bk o c xs sep w hcells hbk hN hcap hlen
def Tryz.lays134_ren : Go.Shelf.Ren := ⟨fun | 134 => 83 | 129 => 102 | n => n, fun | 53 => 98 | 3 => 3 | 4 => 4 | 46 => 89 | 5 => 5 | 9 => 9 | n => n, fun | n => n⟩
theorem Tryz.lays134 : Go.Proofs.Lays.n134 Tryz.prog Tryz.lays134_ren := {
  mixed := by kernel_rfl
  f129 := Tryz.func102.trans (congrArg some (by kernel_rfl))
  f134 := Tryz.func83.trans (congrArg some (by kernel_rfl))
  t3 := Tryz.underlying3
  a3 := Tryz.isAgg3
  z3 := Tryz.sizeOf3
  v3 := Tryz.zeroValue3
  t4 := Tryz.underlying4
  a4 := Tryz.isAgg4
  z4 := Tryz.sizeOf4
  v4 := Tryz.zeroValue4
  t5 := Tryz.underlying5
  a5 := Tryz.isAgg5
  z5 := Tryz.sizeOf5
  v5 := Tryz.zeroValue5
  t9 := Tryz.underlying9
  a9 := Tryz.isAgg9
  z9 := Tryz.sizeOf9
  v9 := Tryz.zeroValue9
  t46 := Tryz.underlying89
  a46 := Tryz.isAgg89
  z46 := Tryz.sizeOf89
  v46 := Tryz.zeroValue89
  t53 := Tryz.underlying98
  a53 := Tryz.isAgg98
  z53 := Tryz.sizeOf98
  v53 := Tryz.zeroValue98 }
/-- bits.LeadingZeros64: "LeadingZeros64 returns the number of leading zero bits in x; the result is 64 for x == 0.": IT RETURNS '64 - Lib.bitLen x'; the world is as it was. ITS CALLEE bits.Len64 IS MET BY ITS OWN CONTRACT OFF THE SHELF (lay that first): entered in place it sends the kernel out of memory. (LAID: no walk: one application.) -/
theorem Tryz.bits_LeadingZeros64 (x : Int) (w : World) (h0 : 0 ≤ x) (h1 : x ≤ 18446744073709551615) :
    Calls Tryz.prog 83 #[.int .u64 x] w fun e w' => e = .returned (.int .i64 (64 - (Lib.bitLen x.toNat : Int))) ∧ w' = w := Any.bits_LeadingZeros64 Tryz.lays134 x w h0 h1
def Tryz.laysM171_ren : Go.Shelf.Ren := ⟨fun | 171 => 16 | 243 => 25 | 246 => 43 | 283 => 74 | 284 => 75 | 285 => 76 | 286 => 77 | 129 => 102 | 317 => 101 | 318 => 103 | 319 => 104 | 320 => 105 | 337 => 116 | 338 => 117 | n => n, fun | 3 => 3 | 9 => 9 | 2 => 2 | 4 => 4 | 171 => 111 | 0 => 0 | 53 => 98 | 37 => 42 | 5 => 5 | 173 => 114 | 212 => 128 | 51 => 116 | 20 => 20 | 213 => 129 | 46 => 89 | 232 => 148 | 233 => 149 | n => n, fun | 17 => 4 | 18 => 7 | 19 => 8 | n => n⟩
theorem Tryz.laysM171 : Go.Proofs.LaysM.n171 Tryz.prog Tryz.laysM171_ren := {
  mixed := by kernel_rfl
  f129 := Tryz.func102.trans (congrArg some (by kernel_rfl))
  f171 := Tryz.func16.trans (congrArg some (by kernel_rfl))
  f243 := Tryz.func25.trans (congrArg some (by kernel_rfl))
  f246 := Tryz.func43.trans (congrArg some (by kernel_rfl))
  f283 := Tryz.func74.trans (congrArg some (by kernel_rfl))
  f284 := Tryz.func75.trans (congrArg some (by kernel_rfl))
  f285 := Tryz.func76.trans (congrArg some (by kernel_rfl))
  f286 := Tryz.func77.trans (congrArg some (by kernel_rfl))
  f317 := Tryz.func101.trans (congrArg some (by kernel_rfl))
  f318 := Tryz.func103.trans (congrArg some (by kernel_rfl))
  f319 := Tryz.func104.trans (congrArg some (by kernel_rfl))
  f320 := Tryz.func105.trans (congrArg some (by kernel_rfl))
  f337 := Tryz.func116.trans (congrArg some (by kernel_rfl))
  f338 := Tryz.func117.trans (congrArg some (by kernel_rfl))
  t0 := Tryz.underlying0
  a0 := Tryz.isAgg0
  z0 := Tryz.sizeOf0
  v0 := Tryz.zeroValue0
  t2 := Tryz.underlying2
  a2 := Tryz.isAgg2
  z2 := Tryz.sizeOf2
  v2 := Tryz.zeroValue2
  t3 := Tryz.underlying3
  a3 := Tryz.isAgg3
  z3 := Tryz.sizeOf3
  v3 := Tryz.zeroValue3
  t4 := Tryz.underlying4
  a4 := Tryz.isAgg4
  z4 := Tryz.sizeOf4
  v4 := Tryz.zeroValue4
  t5 := Tryz.underlying5
  a5 := Tryz.isAgg5
  z5 := Tryz.sizeOf5
  v5 := Tryz.zeroValue5
  t9 := Tryz.underlying9
  a9 := Tryz.isAgg9
  z9 := Tryz.sizeOf9
  v9 := Tryz.zeroValue9
  t20 := Tryz.underlying20
  a20 := Tryz.isAgg20
  z20 := Tryz.sizeOf20
  v20 := Tryz.zeroValue20
  t37 := Tryz.underlying42
  a37 := Tryz.isAgg42
  z37 := Tryz.sizeOf42
  v37 := Tryz.zeroValue42
  t46 := Tryz.underlying89
  a46 := Tryz.isAgg89
  z46 := Tryz.sizeOf89
  v46 := Tryz.zeroValue89
  t51 := Tryz.underlying116
  a51 := Tryz.isAgg116
  z51 := Tryz.sizeOf116
  v51 := Tryz.zeroValue116
  t53 := Tryz.underlying98
  a53 := Tryz.isAgg98
  z53 := Tryz.sizeOf98
  v53 := Tryz.zeroValue98
  t171 := Tryz.underlying111
  a171 := Tryz.isAgg111
  z171 := Tryz.sizeOf111
  v171 := Tryz.zeroValue111
  t173 := Tryz.underlying114
  a173 := Tryz.isAgg114
  z173 := Tryz.sizeOf114
  v173 := Tryz.zeroValue114
  t212 := Tryz.underlying128
  a212 := Tryz.isAgg128
  z212 := Tryz.sizeOf128
  v212 := Tryz.zeroValue128
  t213 := Tryz.underlying129
  a213 := Tryz.isAgg129
  z213 := Tryz.sizeOf129
  t232 := Tryz.underlying148
  a232 := Tryz.isAgg148
  z232 := Tryz.sizeOf148
  v232 := Tryz.zeroValue148
  t233 := Tryz.underlying149
  a233 := Tryz.isAgg149
  z233 := Tryz.sizeOf149
  v233 := Tryz.zeroValue149
  g17 := by kernel_rfl
  g18 := by kernel_rfl
  g19 := by kernel_rfl
  i0 := by kernel_rfl
  i2 := by kernel_rfl
  i3 := by kernel_rfl
  i4 := by kernel_rfl
  i5 := by kernel_rfl
  i9 := by kernel_rfl
  i20 := by kernel_rfl
  i37 := by kernel_rfl
  i46 := by kernel_rfl
  i51 := by kernel_rfl
  i53 := by kernel_rfl
  i171 := by kernel_rfl
  i173 := by kernel_rfl
  i212 := by kernel_rfl
  i232 := by kernel_rfl
  i233 := by kernel_rfl
  m17 := by kernel_rfl
  m18 := by kernel_rfl
  m19 := by kernel_rfl }
open Go.RowKit Go.Sort Go.Lib in
/-- strconv.Itoa: "Itoa is equivalent to FormatInt(int64(i), 10).": i's DECIMAL NUMERAL ('Lib.itoa': a '-' where i is negative, then the digits), FOR EVERY int. The world behind the call: the world before it, new blocks behind the heap (the library's 'var a [24]byte'), draws. (LAID: no walk: one application.) -/
theorem Tryz.strconv_Itoa (n : Int) (h0 : -9223372036854775808 ≤ n) (h1 : n ≤ 9223372036854775807) (w : World) (htab : Lib.TabIs Tryz.prog w "internal/strconv.uint64pow10" .u64 Lib.pow10Tab) :
    Calls Tryz.prog 16 #[.int .i64 n] w fun e w' => e = .returned (.string ⟨(Lib.itoa n).toArray⟩) ∧ ∃ k os, w' = grow (w.drewN k) os := Any.strconv_Itoa Tryz.laysM171 n h0 h1 w htab
def Tryz.laysM173_ren : Go.Shelf.Ren := ⟨fun | 173 => 82 | 246 => 43 | 283 => 74 | 284 => 75 | 285 => 76 | 286 => 77 | 129 => 102 | 317 => 101 | 318 => 103 | 319 => 104 | 320 => 105 | 337 => 116 | 338 => 117 | n => n, fun | 2 => 2 | 3 => 3 | 9 => 9 | 4 => 4 | 171 => 111 | 0 => 0 | 53 => 98 | 37 => 42 | 5 => 5 | 173 => 114 | 212 => 128 | 51 => 116 | 20 => 20 | 213 => 129 | 46 => 89 | 232 => 148 | 233 => 149 | n => n, fun | 17 => 4 | 18 => 7 | 19 => 8 | n => n⟩
theorem Tryz.laysM173 : Go.Proofs.LaysM.n173 Tryz.prog Tryz.laysM173_ren := {
  mixed := by kernel_rfl
  f129 := Tryz.func102.trans (congrArg some (by kernel_rfl))
  f173 := Tryz.func82.trans (congrArg some (by kernel_rfl))
  f246 := Tryz.func43.trans (congrArg some (by kernel_rfl))
  f283 := Tryz.func74.trans (congrArg some (by kernel_rfl))
  f284 := Tryz.func75.trans (congrArg some (by kernel_rfl))
  f285 := Tryz.func76.trans (congrArg some (by kernel_rfl))
  f286 := Tryz.func77.trans (congrArg some (by kernel_rfl))
  f317 := Tryz.func101.trans (congrArg some (by kernel_rfl))
  f318 := Tryz.func103.trans (congrArg some (by kernel_rfl))
  f319 := Tryz.func104.trans (congrArg some (by kernel_rfl))
  f320 := Tryz.func105.trans (congrArg some (by kernel_rfl))
  f337 := Tryz.func116.trans (congrArg some (by kernel_rfl))
  f338 := Tryz.func117.trans (congrArg some (by kernel_rfl))
  t0 := Tryz.underlying0
  a0 := Tryz.isAgg0
  z0 := Tryz.sizeOf0
  v0 := Tryz.zeroValue0
  t2 := Tryz.underlying2
  a2 := Tryz.isAgg2
  z2 := Tryz.sizeOf2
  v2 := Tryz.zeroValue2
  t3 := Tryz.underlying3
  a3 := Tryz.isAgg3
  z3 := Tryz.sizeOf3
  v3 := Tryz.zeroValue3
  t4 := Tryz.underlying4
  a4 := Tryz.isAgg4
  z4 := Tryz.sizeOf4
  v4 := Tryz.zeroValue4
  t5 := Tryz.underlying5
  a5 := Tryz.isAgg5
  z5 := Tryz.sizeOf5
  v5 := Tryz.zeroValue5
  t9 := Tryz.underlying9
  a9 := Tryz.isAgg9
  z9 := Tryz.sizeOf9
  v9 := Tryz.zeroValue9
  t20 := Tryz.underlying20
  a20 := Tryz.isAgg20
  z20 := Tryz.sizeOf20
  v20 := Tryz.zeroValue20
  t37 := Tryz.underlying42
  a37 := Tryz.isAgg42
  z37 := Tryz.sizeOf42
  v37 := Tryz.zeroValue42
  t46 := Tryz.underlying89
  a46 := Tryz.isAgg89
  z46 := Tryz.sizeOf89
  v46 := Tryz.zeroValue89
  t51 := Tryz.underlying116
  a51 := Tryz.isAgg116
  z51 := Tryz.sizeOf116
  v51 := Tryz.zeroValue116
  t53 := Tryz.underlying98
  a53 := Tryz.isAgg98
  z53 := Tryz.sizeOf98
  v53 := Tryz.zeroValue98
  t171 := Tryz.underlying111
  a171 := Tryz.isAgg111
  z171 := Tryz.sizeOf111
  v171 := Tryz.zeroValue111
  t173 := Tryz.underlying114
  a173 := Tryz.isAgg114
  z173 := Tryz.sizeOf114
  v173 := Tryz.zeroValue114
  t212 := Tryz.underlying128
  a212 := Tryz.isAgg128
  z212 := Tryz.sizeOf128
  v212 := Tryz.zeroValue128
  t213 := Tryz.underlying129
  a213 := Tryz.isAgg129
  z213 := Tryz.sizeOf129
  t232 := Tryz.underlying148
  a232 := Tryz.isAgg148
  z232 := Tryz.sizeOf148
  v232 := Tryz.zeroValue148
  t233 := Tryz.underlying149
  a233 := Tryz.isAgg149
  z233 := Tryz.sizeOf149
  v233 := Tryz.zeroValue149
  g17 := by kernel_rfl
  g18 := by kernel_rfl
  g19 := by kernel_rfl
  i0 := by kernel_rfl
  i2 := by kernel_rfl
  i3 := by kernel_rfl
  i4 := by kernel_rfl
  i5 := by kernel_rfl
  i9 := by kernel_rfl
  i20 := by kernel_rfl
  i37 := by kernel_rfl
  i46 := by kernel_rfl
  i51 := by kernel_rfl
  i53 := by kernel_rfl
  i171 := by kernel_rfl
  i173 := by kernel_rfl
  i212 := by kernel_rfl
  i232 := by kernel_rfl
  i233 := by kernel_rfl
  m17 := by kernel_rfl
  m18 := by kernel_rfl
  m19 := by kernel_rfl }
open Go.RowKit Go.Sort Go.Lib in
/-- strconv.FormatInt: "FormatInt returns the string representation of i in the given base": AT BASE 10: i's decimal numeral, for every int64. (LAID: no walk: one application.) -/
theorem Tryz.strconv_FormatInt_10 (n : Int) (h0 : -9223372036854775808 ≤ n) (h1 : n ≤ 9223372036854775807) (w : World) (htab : Lib.TabIs Tryz.prog w "internal/strconv.uint64pow10" .u64 Lib.pow10Tab) :
    Calls Tryz.prog 82 #[.int .i64 n, .int .i64 10] w fun e w' => e = .returned (.string ⟨(Lib.itoa n).toArray⟩) ∧ ∃ k os, w' = grow (w.drewN k) os := Any.strconv_FormatInt_10 Tryz.laysM173 n h0 h1 w htab
def Tryz.laysPu14_ren : Go.Shelf.Ren := ⟨fun | 14 => 63 | 16 => 87 | 17 => 88 | 19 => 107 | 20 => 108 | 21 => 109 | 22 => 110 | 23 => 111 | 24 => 112 | 25 => 118 | 27 => 16 | 26 => 119 | 28 => 25 | 29 => 43 | 30 => 74 | 31 => 75 | 32 => 76 | 33 => 77 | 35 => 102 | 34 => 101 | 36 => 103 | 37 => 104 | 38 => 105 | 39 => 116 | 40 => 117 | n => n, fun | 9 => 9 | 3 => 3 | 22 => 98 | 24 => 47 | 25 => 106 | 4 => 4 | 34 => 135 | 5 => 5 | 36 => 89 | 37 => 42 | 0 => 0 | 39 => 137 | 21 => 21 | 44 => 144 | 47 => 62 | 50 => 152 | 48 => 150 | 2 => 2 | 52 => 111 | 55 => 114 | 59 => 128 | 60 => 116 | 20 => 20 | 61 => 129 | 65 => 148 | 66 => 149 | 67 => 52 | n => n, fun | 0 => 5 | 1 => 6 | 2 => 4 | 3 => 7 | 4 => 8 | n => n⟩
theorem Tryz.laysPu14 : Go.Proofs.LaysPu.n14 Tryz.prog Tryz.laysPu14_ren := {
  mixed := by kernel_rfl
  f14 := Tryz.func63.trans (congrArg some (by kernel_rfl))
  f16 := Tryz.func87.trans (congrArg some (by kernel_rfl))
  f17 := Tryz.func88.trans (congrArg some (by kernel_rfl))
  f19 := Tryz.func107.trans (congrArg some (by kernel_rfl))
  f20 := Tryz.func108.trans (congrArg some (by kernel_rfl))
  f21 := Tryz.func109.trans (congrArg some (by kernel_rfl))
  f22 := Tryz.func110.trans (congrArg some (by kernel_rfl))
  f23 := Tryz.func111.trans (congrArg some (by kernel_rfl))
  f24 := Tryz.func112.trans (congrArg some (by kernel_rfl))
  f25 := Tryz.func118.trans (congrArg some (by kernel_rfl))
  f26 := Tryz.func119.trans (congrArg some (by kernel_rfl))
  f27 := Tryz.func16.trans (congrArg some (by kernel_rfl))
  f28 := Tryz.func25.trans (congrArg some (by kernel_rfl))
  f29 := Tryz.func43.trans (congrArg some (by kernel_rfl))
  f30 := Tryz.func74.trans (congrArg some (by kernel_rfl))
  f31 := Tryz.func75.trans (congrArg some (by kernel_rfl))
  f32 := Tryz.func76.trans (congrArg some (by kernel_rfl))
  f33 := Tryz.func77.trans (congrArg some (by kernel_rfl))
  f34 := Tryz.func101.trans (congrArg some (by kernel_rfl))
  f35 := Tryz.func102.trans (congrArg some (by kernel_rfl))
  f36 := Tryz.func103.trans (congrArg some (by kernel_rfl))
  f37 := Tryz.func104.trans (congrArg some (by kernel_rfl))
  f38 := Tryz.func105.trans (congrArg some (by kernel_rfl))
  f39 := Tryz.func116.trans (congrArg some (by kernel_rfl))
  f40 := Tryz.func117.trans (congrArg some (by kernel_rfl))
  t0 := Tryz.underlying0
  a0 := Tryz.isAgg0
  z0 := Tryz.sizeOf0
  v0 := Tryz.zeroValue0
  i0 := by kernel_rfl
  t2 := Tryz.underlying2
  a2 := Tryz.isAgg2
  z2 := Tryz.sizeOf2
  v2 := Tryz.zeroValue2
  i2 := by kernel_rfl
  t3 := Tryz.underlying3
  a3 := Tryz.isAgg3
  z3 := Tryz.sizeOf3
  v3 := Tryz.zeroValue3
  i3 := by kernel_rfl
  t4 := Tryz.underlying4
  a4 := Tryz.isAgg4
  z4 := Tryz.sizeOf4
  v4 := Tryz.zeroValue4
  i4 := by kernel_rfl
  t5 := Tryz.underlying5
  a5 := Tryz.isAgg5
  z5 := Tryz.sizeOf5
  v5 := Tryz.zeroValue5
  i5 := by kernel_rfl
  t9 := Tryz.underlying9
  a9 := Tryz.isAgg9
  z9 := Tryz.sizeOf9
  v9 := Tryz.zeroValue9
  i9 := by kernel_rfl
  t20 := Tryz.underlying20
  a20 := Tryz.isAgg20
  z20 := Tryz.sizeOf20
  v20 := Tryz.zeroValue20
  i20 := by kernel_rfl
  t21 := Tryz.underlying21
  a21 := Tryz.isAgg21
  z21 := Tryz.sizeOf21
  v21 := Tryz.zeroValue21
  i21 := by kernel_rfl
  t22 := Tryz.underlying98
  a22 := Tryz.isAgg98
  z22 := Tryz.sizeOf98
  v22 := Tryz.zeroValue98
  i22 := by kernel_rfl
  t24 := Tryz.underlying47
  a24 := Tryz.isAgg47
  z24 := Tryz.sizeOf47
  v24 := Tryz.zeroValue47
  i24 := by kernel_rfl
  t25 := Tryz.underlying106
  a25 := Tryz.isAgg106
  z25 := Tryz.sizeOf106
  v25 := Tryz.zeroValue106
  i25 := by kernel_rfl
  t34 := Tryz.underlying135
  a34 := Tryz.isAgg135
  z34 := Tryz.sizeOf135
  v34 := Tryz.zeroValue135
  i34 := by kernel_rfl
  c34 := by kernel_rfl
  t36 := Tryz.underlying89
  a36 := Tryz.isAgg89
  z36 := Tryz.sizeOf89
  v36 := Tryz.zeroValue89
  i36 := by kernel_rfl
  t37 := Tryz.underlying42
  a37 := Tryz.isAgg42
  z37 := Tryz.sizeOf42
  v37 := Tryz.zeroValue42
  i37 := by kernel_rfl
  t39 := Tryz.underlying137
  a39 := Tryz.isAgg137
  z39 := Tryz.sizeOf137
  v39 := Tryz.zeroValue137
  i39 := by kernel_rfl
  t44 := Tryz.underlying144
  a44 := Tryz.isAgg144
  z44 := Tryz.sizeOf144
  v44 := Tryz.zeroValue144
  i44 := by kernel_rfl
  t47 := Tryz.underlying62
  a47 := Tryz.isAgg62
  z47 := Tryz.sizeOf62
  v47 := Tryz.zeroValue62
  i47 := by kernel_rfl
  t48 := Tryz.underlying150
  a48 := Tryz.isAgg150
  z48 := Tryz.sizeOf150
  v48 := Tryz.zeroValue150
  i48 := by kernel_rfl
  t50 := Tryz.underlying152
  a50 := Tryz.isAgg152
  z50 := Tryz.sizeOf152
  v50 := Tryz.zeroValue152
  i50 := by kernel_rfl
  t52 := Tryz.underlying111
  a52 := Tryz.isAgg111
  z52 := Tryz.sizeOf111
  v52 := Tryz.zeroValue111
  i52 := by kernel_rfl
  t55 := Tryz.underlying114
  a55 := Tryz.isAgg114
  z55 := Tryz.sizeOf114
  v55 := Tryz.zeroValue114
  i55 := by kernel_rfl
  t59 := Tryz.underlying128
  a59 := Tryz.isAgg128
  z59 := Tryz.sizeOf128
  v59 := Tryz.zeroValue128
  i59 := by kernel_rfl
  t60 := Tryz.underlying116
  a60 := Tryz.isAgg116
  z60 := Tryz.sizeOf116
  v60 := Tryz.zeroValue116
  i60 := by kernel_rfl
  t61 := Tryz.underlying129
  a61 := Tryz.isAgg129
  z61 := Tryz.sizeOf129
  t65 := Tryz.underlying148
  a65 := Tryz.isAgg148
  z65 := Tryz.sizeOf148
  v65 := Tryz.zeroValue148
  i65 := by kernel_rfl
  t66 := Tryz.underlying149
  a66 := Tryz.isAgg149
  z66 := Tryz.sizeOf149
  v66 := Tryz.zeroValue149
  i66 := by kernel_rfl
  t67 := Tryz.underlying52
  a67 := Tryz.isAgg52
  z67 := Tryz.sizeOf52
  v67 := Tryz.zeroValue52
  i67 := by kernel_rfl
  g0 := by kernel_rfl
  m0 := by kernel_rfl
  g1 := by kernel_rfl
  m1 := by kernel_rfl
  g2 := by kernel_rfl
  m2 := by kernel_rfl
  g3 := by kernel_rfl
  m3 := by kernel_rfl
  g4 := by kernel_rfl
  m4 := by kernel_rfl }
open Go.RowKit in
/-- strconv.ParseUint(s, 10, 64), AT EVERY STRING THAT SPELLS A uint64 ('Lib.parseUintB 64 s.data.toList = .ok u'): u, AND NO ERROR. (LAID: no walk: one application.) -/
theorem Tryz.strconv_ParseUint_10_at64_ok (s : ByteArray) (hmax : s.size ≤ 9223372036854775806) (u : Nat) (h : Lib.parseUintB 64 s.data.toList = .ok u) (w : World) :
    Calls Tryz.prog 63 #[.string s, .int .i64 10, .int .i64 64] w fun e w' => e = .returned (.tuple #[.int .u64 u, .nilIface]) ∧ (w' = w ∨ w' = Lib.bytesWorld w 5 s) := Any.strconv_ParseUint_10_at64_ok Tryz.laysPu14 s hmax u h w
open Go.RowKit in
/-- strconv.ParseUint(s, 10, 16), AT EVERY STRING THAT SPELLS A uint16 ('Lib.parseUintB 16 s.data.toList = .ok u'): u, AND NO ERROR. (LAID: no walk: one application.) -/
theorem Tryz.strconv_ParseUint_10_at16_ok (s : ByteArray) (hmax : s.size ≤ 9223372036854775806) (u : Nat) (h : Lib.parseUintB 16 s.data.toList = .ok u) (w : World) :
    Calls Tryz.prog 63 #[.string s, .int .i64 10, .int .i64 16] w fun e w' => e = .returned (.tuple #[.int .u64 u, .nilIface]) ∧ (w' = w ∨ w' = Lib.bytesWorld w 5 s) := Any.strconv_ParseUint_10_at16_ok Tryz.laysPu14 s hmax u h w
open Go.RowKit in
/-- strconv.ParseUint(s, 10, 16), AT EVERY STRING THAT IS NO ROW OF DECIMAL DIGITS (a sign is a fault): 0, AND AN ERROR THAT IS NOT nil: a *NumError in a new block N: {Func: "ParseUint", Num: s's bytes, Err: what the variable ErrSyntax holds}. Of what was there nothing has turned. (LAID: no walk: one application.) -/
theorem Tryz.strconv_ParseUint_10_at16_syntax (s : ByteArray) (hlim : s.size ≤ 281474976710656) (h : Lib.parseUintB 16 s.data.toList = Lib.parseUintB 16 []) (ev : Value) (w : World) (hv : w.cell? ⟨5, 0, none⟩ = some ev) (hev : ev = .nilIface ∨ ∃ te pe, ev = .iface te pe) :
    Calls Tryz.prog 63 #[.string s, .int .i64 10, .int .i64 16] w fun e w' => ∃ N, e = .returned (.tuple #[.int .u64 0, .iface 137 (.pointer (some ⟨N, 0, none⟩))]) ∧ w.heap.size ≤ N ∧ w'.heap[N]? = some (.cells #[.string ⟨#[80, 97, 114, 115, 101, 85, 105, 110, 116]⟩, .string s, ev] 144 (0, 0)) ∧ Below w.heap.size w w' := Any.strconv_ParseUint_10_at16_syntax Tryz.laysPu14 s hlim h ev w hv hev
open Go.RowKit in
/-- strconv.ParseUint(s, 10, 16), AT EVERY NUMERAL THAT NO uint16 HOLDS: THE GREATEST uint16, AND AN ERROR THAT IS NOT nil: a *NumError in a new block N: {Func: "ParseUint", Num: s's bytes, Err: what the variable ErrRange holds}. Of what was there nothing has turned. (LAID: no walk: one application.) -/
theorem Tryz.strconv_ParseUint_10_at16_range (s : ByteArray) (hlim : s.size ≤ 281474976710656) (h : Lib.parseUintB 16 s.data.toList = .range) (ev : Value) (w : World) (hv : w.cell? ⟨6, 0, none⟩ = some ev) (hev : ev = .nilIface ∨ ∃ te pe, ev = .iface te pe) :
    Calls Tryz.prog 63 #[.string s, .int .i64 10, .int .i64 16] w fun e w' => ∃ N, e = .returned (.tuple #[.int .u64 65535, .iface 137 (.pointer (some ⟨N, 0, none⟩))]) ∧ w.heap.size ≤ N ∧ w'.heap[N]? = some (.cells #[.string ⟨#[80, 97, 114, 115, 101, 85, 105, 110, 116]⟩, .string s, ev] 144 (0, 0)) ∧ Below w.heap.size w w' := Any.strconv_ParseUint_10_at16_range Tryz.laysPu14 s hlim h ev w hv hev
def Tryz.lays264_ren : Go.Shelf.Ren := ⟨fun | 264 => 55 | n => n, fun | 53 => 98 | 46 => 89 | n => n, fun | n => n⟩
theorem Tryz.lays264 : Go.Proofs.Lays.n264 Tryz.prog Tryz.lays264_ren := {
  mixed := by kernel_rfl
  f264 := Tryz.func55.trans (congrArg some (by kernel_rfl))
  t46 := Tryz.underlying89
  a46 := Tryz.isAgg89
  z46 := Tryz.sizeOf89
  v46 := Tryz.zeroValue89
  t53 := Tryz.underlying98
  a53 := Tryz.isAgg98
  z53 := Tryz.sizeOf98
  v53 := Tryz.zeroValue98 }
open Go.RowKit Go.Lib in
theorem Tryz.bits_Mul64 (x y : Nat) (hx : x < 18446744073709551616) (hy : y < 18446744073709551616) (w : World) :
    Calls Tryz.prog 55 #[.int .u64 x, .int .u64 y] w fun e w' => e = .returned (.tuple #[.int .u64 ((x * y / 18446744073709551616 : Nat) : Int), .int .u64 ((x * y % 18446744073709551616 : Nat) : Int)]) ∧ w' = w := Any.bits_Mul64 Tryz.lays264 x y hx hy w
def Tryz.lays105_ren : Go.Shelf.Ren := ⟨fun | 105 => 29 | 212 => 49 | 99 => 50 | 165 => 18 | 166 => 9 | 170 => 51 | 169 => 12 | 263 => 79 | 264 => 55 | 206 => 80 | 240 => 17 | 241 => 27 | 276 => 26 | 277 => 44 | n => n, fun | 9 => 9 | 3 => 3 | 4 => 4 | 20 => 20 | 0 => 0 | 46 => 89 | 109 => 90 | 5 => 5 | 72 => 44 | 76 => 48 | 51 => 116 | 146 => 117 | 53 => 98 | 148 => 99 | 70 => 41 | 37 => 42 | 75 => 47 | 127 => 62 | 164 => 68 | 80 => 52 | n => n, fun | n => n⟩
theorem Tryz.lays105 : Go.Proofs.Lays.n105 Tryz.prog Tryz.lays105_ren := {
  mixed := by kernel_rfl
  f99 := Tryz.func50.trans (congrArg some (by kernel_rfl))
  f105 := Tryz.func29.trans (congrArg some (by kernel_rfl))
  f165 := Tryz.func18.trans (congrArg some (by kernel_rfl))
  f166 := Tryz.func9.trans (congrArg some (by kernel_rfl))
  f169 := Tryz.func12.trans (congrArg some (by kernel_rfl))
  f170 := Tryz.func51.trans (congrArg some (by kernel_rfl))
  f206 := Tryz.func80.trans (congrArg some (by kernel_rfl))
  f212 := Tryz.func49.trans (congrArg some (by kernel_rfl))
  f240 := Tryz.func17.trans (congrArg some (by kernel_rfl))
  f241 := Tryz.func27.trans (congrArg some (by kernel_rfl))
  f263 := Tryz.func79.trans (congrArg some (by kernel_rfl))
  f264 := Tryz.func55.trans (congrArg some (by kernel_rfl))
  f276 := Tryz.func26.trans (congrArg some (by kernel_rfl))
  f277 := Tryz.func44.trans (congrArg some (by kernel_rfl))
  t0 := Tryz.underlying0
  a0 := Tryz.isAgg0
  z0 := Tryz.sizeOf0
  v0 := Tryz.zeroValue0
  t3 := Tryz.underlying3
  a3 := Tryz.isAgg3
  z3 := Tryz.sizeOf3
  v3 := Tryz.zeroValue3
  t4 := Tryz.underlying4
  a4 := Tryz.isAgg4
  z4 := Tryz.sizeOf4
  v4 := Tryz.zeroValue4
  t5 := Tryz.underlying5
  a5 := Tryz.isAgg5
  z5 := Tryz.sizeOf5
  v5 := Tryz.zeroValue5
  t9 := Tryz.underlying9
  a9 := Tryz.isAgg9
  z9 := Tryz.sizeOf9
  v9 := Tryz.zeroValue9
  t20 := Tryz.underlying20
  a20 := Tryz.isAgg20
  z20 := Tryz.sizeOf20
  v20 := Tryz.zeroValue20
  t37 := Tryz.underlying42
  a37 := Tryz.isAgg42
  z37 := Tryz.sizeOf42
  v37 := Tryz.zeroValue42
  t46 := Tryz.underlying89
  a46 := Tryz.isAgg89
  z46 := Tryz.sizeOf89
  v46 := Tryz.zeroValue89
  t51 := Tryz.underlying116
  a51 := Tryz.isAgg116
  z51 := Tryz.sizeOf116
  v51 := Tryz.zeroValue116
  t53 := Tryz.underlying98
  a53 := Tryz.isAgg98
  z53 := Tryz.sizeOf98
  v53 := Tryz.zeroValue98
  t70 := Tryz.underlying41
  a70 := Tryz.isAgg41
  z70 := Tryz.sizeOf41
  v70 := Tryz.zeroValue41
  t72 := Tryz.underlying44
  a72 := Tryz.isAgg44
  z72 := Tryz.sizeOf44
  v72 := Tryz.zeroValue44
  t75 := Tryz.underlying47
  a75 := Tryz.isAgg47
  z75 := Tryz.sizeOf47
  v75 := Tryz.zeroValue47
  t76 := Tryz.underlying48
  a76 := Tryz.isAgg48
  z76 := Tryz.sizeOf48
  v76 := Tryz.zeroValue48
  t109 := Tryz.underlying90
  a109 := Tryz.isAgg90
  z109 := Tryz.sizeOf90
  v109 := Tryz.zeroValue90
  t127 := Tryz.underlying62
  a127 := Tryz.isAgg62
  z127 := Tryz.sizeOf62
  v127 := Tryz.zeroValue62
  t146 := Tryz.underlying117
  a146 := Tryz.isAgg117
  z146 := Tryz.sizeOf117
  v146 := Tryz.zeroValue117
  t148 := Tryz.underlying99
  a148 := Tryz.isAgg99
  z148 := Tryz.sizeOf99
  v148 := Tryz.zeroValue99
  t164 := Tryz.underlying68
  a164 := Tryz.isAgg68
  z164 := Tryz.sizeOf68
  v164 := Tryz.zeroValue68 }
theorem Tryz.Builder_Extra_105 : Builder.Extra Tryz.prog Tryz.lays105_ren := {
  sizeBuilder := by kernel_rfl
  liesBuilder := by kernel_rfl
  t5 := Tryz.underlying5
  a5 := Tryz.isAgg5
  z5 := Tryz.sizeOf5
  v5 := Tryz.zeroValue5
  infoByte := by kernel_rfl
  cellsByte := by kernel_rfl
  sizeByte := by kernel_rfl
  neB5 := by decide }
open Go.RowKit Go.Lib in
/-- **strings.Repeat: count ≥ 0, the result within one allocation: count copies of s.** (LAID: no walk: one application.) -/
theorem Tryz.strings_Repeat (s : ByteArray) (c : Nat) (w : World) (hc : c ≤ 9223372036854775807) (hlen : s.size * c ≤ 140737488355328) :
    Calls Tryz.prog 29 #[.string s, .int .i64 c] w fun e w' => e = .returned (.string ⟨(Lib.repeatL s.data.toList c).toArray⟩) ∧ Below w.heap.size w w' := Any.strings_Repeat Tryz.lays105 Tryz.Builder_Extra_105 s c w hc hlen
end Go.Proofs
/-
  Texts of numbers: pad of package moment, digitsOf of the reference, and the digits that both write.
-/
namespace Go.Proofs.YtafeigpmldgifaaGreatDoor
namespace At
open Go.RowKit Lw Ap

theorem gPow : Tryz.prog.globalNamed "internal/strconv.uint64pow10" = some 4 := by kernel_rfl
/-- The library's table of powers of ten holds what its initialiser lays. -/
def Tab (w : World) : Prop := Lib.TabIs Tryz.prog w "internal/strconv.uint64pow10" .u64 Lib.pow10Tab
theorem Tab.below {w w' : World} (h : Tab w) (hb : Below w.heap.size w w') : Tab w' := Joins.tab_stays gPow h hb (Nat.le_refl _)

/-- A number with at least so many digits. -/
def padL (n : Int) (d : Nat) : List UInt8 := Lib.repeatL [48] (d - (Lib.itoa n).length) ++ Lib.itoa n
theorem below_grow (w : World) (k : Nat) (os : Array Obj) : Below w.heap.size w (Go.Sort.grow (w.drewN k) os) :=
  ⟨rfl, rfl, rfl, by simp [Go.Sort.grow, World.drewN], fun j hj => by
    show (w.heap ++ os)[j]? = w.heap[j]?
    rw [Array.getElem?_append_left hj]⟩
theorem rep_len (k : Nat) : (Lib.repeatL [48] k).length = k := by
  induction k with
  | zero => rfl
  | succ k ih => simp_all [Lib.repeatL]
theorem str_app (a b : List UInt8) : ((⟨a.toArray⟩ : ByteArray) ++ ⟨b.toArray⟩) = ⟨(a ++ b).toArray⟩ := by
  apply ByteArray.ext
  simp [ByteArray.data_append]

set_option maxRecDepth 100000 in
theorem pad_any (n : Int) (d : Nat) (w : World) (hT : Tab w) (h0 : 0 ≤ n) (h1 : n ≤ 1000000000000000000) (hd : d ≤ 20) :
    Calls Tryz.prog 54 #[.int .i64 n, .int .i64 d] w fun e w' => e = .returned (.string ⟨(padL n d).toArray⟩) ∧ Below w.heap.size w w' := by
  have hl := Lib.itoa_length_le n (by omega) (by omega)
  have F := Lib.hid (Tryz.strconv_FormatInt_10 n (by omega) (by omega) w hT)
  have hp : padL n d = Lib.repeatL [48] (d - (Lib.itoa n).length) ++ Lib.itoa n := rfl
  have hp := Lib.hid hp
  have sz : (⟨(Lib.itoa n).toArray⟩ : ByteArray).size = (Lib.itoa n).length := by simp [ByteArray.size]
  generalize Lib.itoa n = L at *
  go_enter Tryz.func54, Tryz.ntmps54
  go_wp2_with fail
  go_at_call 82
  refine F.out.mono ?_
  rintro e w1 ⟨rfl, k, os, hw⟩
  have hB1 : Below w.heap.size w w1 := by rw [hw]; exact below_grow w k os
  clear F hw hT
  have em : max (0 : Int) (↑d - ↑L.length) = ((d - L.length : Nat) : Int) := by omega
  have R := Lib.hid (Tryz.strings_Repeat ⟨#[48]⟩ (d - L.length) w1 (by omega) (by show 1 * _ ≤ _; omega))
  have rl := rep_len (d - L.length)
  have ls : (⟨#[48]⟩ : ByteArray).data.toList = [48] := rfl
  rw [ls] at R
  go_wp2_with fail
  go_at_call 29
  refine R.out.mono ?_
  rintro e w2 ⟨rfl, hB2⟩
  have hB := below_then hB1 hB2
  have sa := str_app (Lib.repeatL [48] (d - L.length)) L
  generalize Lib.repeatL [48] (d - L.length) = Q at *
  clear R em ls hB1 hB2
  go_wp2_with fail
  go_ret
  exact ⟨by rw [hp.out]; rfl, hB⟩
theorem u8_of (n : Nat) (h : n < 10) : (((UInt8.ofNat (48 + n)).toNat : Nat) : Int) = 48 + n := by
  rw [UInt8.toNat_ofNat']
  omega
theorem dd_num (u : Nat) : numL (Lib.decDigits u) = u ∧ allD (Lib.decDigits u) := by
  induction u using Nat.strongRecOn with
  | _ u ih =>
    by_cases h : u < 10
    · rw [Lib.decDigits_one h]
      have e := u8_of u h
      refine ⟨by unfold numL; simp only [List.foldl_cons, List.foldl_nil]; omega, fun c hc => ?_⟩
      rw [List.mem_singleton.1 hc]
      omega
    · rw [Lib.decDigits, dif_neg h]
      obtain ⟨h1, h2⟩ := ih (u / 10) (by omega)
      have e := u8_of (u % 10) (Nat.mod_lt _ (by omega))
      exact ⟨by rw [numL_snoc, h1]; omega, allD_snoc h2 (by omega) (by omega)⟩
theorem itoa_num (r : Nat) : numL (Lib.itoa (r : Int)) = r ∧ allD (Lib.itoa (r : Int)) := by
  unfold Lib.itoa
  rw [if_neg (by omega), Int.toNat_natCast]
  exact dd_num r
theorem rep_num (k : Nat) : numL (Lib.repeatL [48] k) = 0 ∧ allD (Lib.repeatL [48] k) := by
  induction k with
  | zero => exact ⟨rfl, fun c hc => by simp [Lib.repeatL] at hc⟩
  | succ k ih =>
    have e : Lib.repeatL [48] (k + 1) = 48 :: Lib.repeatL [48] k := rfl
    rw [e]
    refine ⟨?_, fun c hc => ?_⟩
    · have := ih.1
      unfold numL at this ⊢
      rw [List.foldl_cons]
      exact this
    · rcases List.mem_cons.1 hc with rfl | g
      · decide
      · exact ih.2 c g
theorem pad_num (r d : Nat) : numV (padL (r : Int) d) = r := by
  have h1 := itoa_num r
  have h2 := rep_num (d - (Lib.itoa (r : Int)).length)
  have hA : allD (padL (r : Int) d) := fun c hc => by
    rcases List.mem_append.1 hc with g | g
    · exact h2.2 c g
    · exact h1.2 c g
  unfold numV
  rw [if_pos hA]
  unfold padL numL
  rw [List.foldl_append]
  have e2 := h2.1
  have e1 := h1.1
  unfold numL at e1 e2
  rw [e2, e1]
theorem nd_le : ∀ (d r : Nat), r < 10 ^ (d + 1) → Lib.nDigits r ≤ d + 1
  | 0, r, h => by rw [Lib.nDigits_small (by simpa using h)]; exact Nat.le_refl _
  | d + 1, r, h => by
    by_cases g : r < 10
    · rw [Lib.nDigits_small g]; omega
    · rw [Lib.nDigits_big g]
      have := nd_le d (r / 10) (by rw [Nat.pow_succ] at h; omega)
      omega
theorem pad_size (r d : Nat) (hd : 1 ≤ d) (h : r < 10 ^ d) : (padL (r : Int) d).length = d := by
  obtain ⟨k, rfl⟩ : ∃ k, d = k + 1 := ⟨d - 1, by omega⟩
  have h1 := nd_le k r h
  have hl : (Lib.itoa (r : Int)).length = Lib.nDigits r := by
    unfold Lib.itoa
    rw [if_neg (by omega), Int.toNat_natCast, Lib.decDigits_length]
  unfold padL
  rw [List.length_append, rep_len, hl]
  omega
/-- The digit of a number below ten. -/
def dg (m : Nat) : UInt8 := UInt8.ofNat (48 + m)
theorem dg_of (n : Nat) (h : n < 10) : (((dg n).toNat : Nat) : Int) = 48 + n := u8_of n h
/-- The last digits of a number. -/
def decL : Nat → Nat → List UInt8
  | _, 0 => []
  | n, k + 1 => decL (n / 10) k ++ [dg (n % 10)]
theorem decL_len : ∀ k n, (decL n k).length = k
  | 0, _ => rfl
  | k + 1, n => by rw [decL, List.length_append, decL_len k]; rfl
theorem decL_num : ∀ k n, numL (decL n k) = ((n % 10 ^ k : Nat) : Int) ∧ allD (decL n k)
  | 0, n => ⟨by simp [decL, numL, Nat.mod_one], fun c hc => by simp [decL] at hc⟩
  | k + 1, n => by
    obtain ⟨h1, h2⟩ := decL_num k (n / 10)
    have e := dg_of (n % 10) (Nat.mod_lt _ (by omega))
    refine ⟨?_, allD_snoc h2 (by omega) (by omega)⟩
    rw [decL, numL_snoc, h1, Nat.pow_succ, Nat.mul_comm (10 ^ k) 10, Nat.mod_mul]
    omega
theorem dec_cons : ∀ k n, decL n (k + 1) = dg (n / 10 ^ k % 10) :: decL n k
  | 0, n => by simp [decL]
  | k + 1, n => by
    have ih := dec_cons k (n / 10)
    rw [decL, ih, decL, List.cons_append, Nat.div_div_eq_div_mul, Nat.pow_succ, Nat.mul_comm (10 ^ k) 10]
theorem num_inj : ∀ (k : Nat) (a b : List UInt8), a.length = k → b.length = k → allD a → allD b → numL a = numL b → a = b
  | 0, a, b, ha, hb, _, _, _ => by rw [List.length_eq_zero_iff.1 ha, List.length_eq_zero_iff.1 hb]
  | k + 1, a, b, ha, hb, da, db, hn => by
    obtain ⟨a', x, rfl⟩ : ∃ a' x, a = a' ++ [x] := ⟨a.dropLast, a.getLast (by intro h; rw [h] at ha; simp at ha), (List.dropLast_concat_getLast _).symm⟩
    obtain ⟨b', y, rfl⟩ : ∃ b' y, b = b' ++ [y] := ⟨b.dropLast, b.getLast (by intro h; rw [h] at hb; simp at hb), (List.dropLast_concat_getLast _).symm⟩
    rw [numL_snoc, numL_snoc] at hn
    have hx := da x (List.mem_append_right _ (List.mem_singleton.2 rfl))
    have hy := db y (List.mem_append_right _ (List.mem_singleton.2 rfl))
    have e : numL a' = numL b' := by omega
    have e2 : x = y := by
      apply UInt8.toNat_inj.1
      omega
    rw [num_inj k a' b' (by simpa using ha) (by simpa using hb) (fun c hc => da c (List.mem_append_left _ hc)) (fun c hc => db c (List.mem_append_left _ hc)) e, e2]
theorem pad_all (r d : Nat) : allD (padL (r : Int) d) := fun c hc => by
  rcases List.mem_append.1 hc with g | g
  · exact (rep_num (d - (Lib.itoa (r : Int)).length)).2 c g
  · exact (itoa_num r).2 c g
theorem pad_dec (r d : Nat) (hd : 1 ≤ d) (h : r < 10 ^ d) : padL (r : Int) d = decL r d := by
  obtain ⟨h1, h2⟩ := decL_num d r
  refine num_inj d _ _ (pad_size r d hd h) (decL_len d r) (pad_all r d) h2 ?_
  have := pad_num r d
  unfold numV at this
  rw [if_pos (pad_all r d)] at this
  rw [this, h1, Nat.mod_eq_of_lt h]
/-- pad writes the digits of a number that has not too many of them. -/
theorem padd_any (r d : Nat) (w : World) (hT : Tab w) (hd : 1 ≤ d) (hd2 : d ≤ 18) (h : r < 10 ^ d) :
    Calls Tryz.prog 54 #[.int .i64 r, .int .i64 d] w fun e w' => e = .returned (.string ⟨(decL r d).toArray⟩) ∧ Below w.heap.size w w' := by
  have hr : r ≤ 1000000000000000000 := by
    have h9 : ∀ d : Nat, d ≤ 18 → 10 ^ d ≤ 1000000000000000000 := by decide
    have := h9 d hd2
    omega
  rw [← pad_dec r d hd h]
  exact pad_any r d w hT (by omega) (by omega) (by omega)
theorem dig_ext : ∀ m, m < 10 → (⟨#[48, 49, 50, 51, 52, 53, 54, 55, 56, 57]⟩ : ByteArray).extract m (m + 1) = ⟨#[dg m]⟩ := by decide
theorem str_cons (c : UInt8) (l : List UInt8) : ((⟨#[c]⟩ : ByteArray) ++ ⟨l.toArray⟩) = ⟨(c :: l).toArray⟩ := str_app [c] l
set_option maxRecDepth 100000 in
set_option maxHeartbeats 2000000 in
theorem rdigs_any (n k : Nat) (w : World) (hn : n ≤ 1000000000000000000) (hk : k ≤ 20) :
    Calls Tryz.prog 91 #[.int .i64 n, .int .i64 k] w fun e w' => e = .returned (.string ⟨(decL n k).toArray⟩) ∧ w = w' := by
  go_enter Tryz.func91, Tryz.ntmps91
  go_wp2
  go_loop [0, 6, 7] (fun v s i => ∃ j u : Nat, ∃ S : ByteArray, j ≤ k ∧ i = .int .i64 j ∧ s = .string S ∧ v = .int .i64 u ∧ u ≤ 1000000000000000000 ∧ Hid (u = n / 10 ^ j ∧ S = ⟨(decL n j).toArray⟩) ∧ S.size ≤ 20) (fun _ _ i => k - (intOf i).toNat)
  case atStart => exact ⟨0, n, ⟨#[]⟩, Nat.zero_le _, rfl, rfl, rfl, hn, Lib.hid ⟨by simp, rfl⟩, by decide⟩
  case round =>
    obtain ⟨j, u, S, hj, rfl, rfl, rfl, hu, D, hS⟩ := hrel
    by_cases hlt : j < k
    · obtain ⟨m, hm⟩ : ∃ m, m = u % 10 := ⟨_, rfl⟩
      obtain ⟨u', hu'⟩ : ∃ u', u' = u / 10 := ⟨_, rfl⟩
      have r1 : (u : Int) % 10 = (m : Int) := by omega
      have r2 : (u : Int) / 10 = (u' : Int) := by omega
      have m0 : m < 10 := by omega
      have de := dig_ext m m0
      have D2 := Lib.hid (show u' = n / 10 ^ (j + 1) ∧ (⟨#[dg m]⟩ ++ S : ByteArray) = ⟨(decL n (j + 1)).toArray⟩ from ⟨by rw [hu', D.out.1, Nat.div_div_eq_div_mul, Nat.pow_succ], by rw [D.out.2, str_cons, dec_cons, hm, D.out.1]⟩)
      have sz : (⟨#[dg m]⟩ ++ S : ByteArray).size ≤ 20 := by
        rw [D2.out.2]
        have : (⟨(decL n (j + 1)).toArray⟩ : ByteArray).size = (decL n (j + 1)).length := by simp [ByteArray.size]
        rw [this, decL_len]; omega
      have u0 : u' ≤ 1000000000000000000 := by omega
      have i1 : (m : Int) ≤ 9 := by omega
      have i0 : 0 ≤ (m : Int) := by omega
      clear hm hu' m0
      go_wp2
      go_round
      case rel => exact ⟨j + 1, u', _, by omega, by go_num, rfl, rfl, u0, D2, sz⟩
      case measure => simp [intOf]; omega
    · obtain rfl : j = k := by omega
      have E := Lib.hid D.out.2
      go_wp2
      go_ret
      exact ⟨by rw [E.out]; rfl, rfl⟩
end At
end Go.Proofs.YtafeigpmldgifaaGreatDoor
/-
  Texts that follow a pattern: like of the reference.
-/
namespace Go.Proofs.YtafeigpmldgifaaGreatDoor
namespace Ap
open Go.RowKit Lw

abbrev bt (s : ByteArray) (k : Nat) : Int := ((s.get! k).toNat : Int)
/-- A byte that follows a pattern: a digit where the pattern has one, and the pattern's byte elsewhere. -/
def okAt (s p : ByteArray) (k : Nat) : Prop := (bt p k = 48 → 48 ≤ bt s k ∧ bt s k ≤ 57) ∧ (¬ bt p k = 48 → bt s k = bt p k)
instance (s p : ByteArray) (k : Nat) : Decidable (okAt s p k) := by unfold okAt; infer_instance
def likeTo (s p : ByteArray) (n : Nat) : Prop := ∀ k, k < n → okAt s p k
instance (s p : ByteArray) (n : Nat) : Decidable (likeTo s p n) := by unfold likeTo; infer_instance
def likeP (s p : ByteArray) : Prop := s.size = p.size ∧ likeTo s p s.size
instance (s p : ByteArray) : Decidable (likeP s p) := by unfold likeP; infer_instance
theorem bt_of (s : ByteArray) (i : Nat) (h : i < s.size) : bt s i = (s[i].toNat : Int) := by simp [bt, ByteArray.get!, getElem!_pos, h]; rfl
theorem like_no {s p : ByteArray} {k : Nat} (hk : k < s.size) (h : ¬ okAt s p k) : decide (likeP s p) = false := decide_eq_false fun g => h (g.2 k hk)
theorem like_yes {s p : ByteArray} {k : Nat} (hn : s.size = p.size) (hk : ¬ k < s.size) (h : likeTo s p k) : decide (likeP s p) = true := decide_eq_true ⟨hn, fun j hj => h j (by omega)⟩
theorem likeTo_s {s p : ByteArray} {k : Nat} (h : likeTo s p k) (g : okAt s p k) : likeTo s p (k + 1) := fun j hj => by
  by_cases e : j = k
  · subst e; exact g
  · exact h j (by omega)
theorem ret_b {a b : Bool} (h : a = b) : Ending.returned (.bool a) = .returned (.bool b) := by rw [h]
end Ap
end Go.Proofs.YtafeigpmldgifaaGreatDoor
/-
  Plain law of the numbers between separators, for any string and any pattern; no walk here.
-/
namespace Go.Proofs.YtafeigpmldgifaaGreatDoor
namespace Ap
open Go.RowKit Lw

/-- Is the byte before one of a number? -/
def ins (p : ByteArray) : Nat → Bool
  | 0 => false
  | k + 1 => decide (bt p k = 48)
/-- The numbers of the first bytes. -/
def grpL (s p : ByteArray) : Nat → List Int
  | 0 => []
  | k + 1 => if bt p k = 48 then (if ins p k = true then (grpL s p k).dropLast ++ [10 * (grpL s p k).getLastD 0 + (bt s k - 48)] else grpL s p k ++ [bt s k - 48]) else grpL s p k
def runAt (p : ByteArray) : Nat → Nat
  | 0 => 0
  | k + 1 => if bt p k = 48 then runAt p k + 1 else 0
theorem grp_skip {s p : ByteArray} {k : Nat} (h : ¬ bt p k = 48) : grpL s p (k + 1) = grpL s p k := by simp only [grpL]; rw [if_neg h]
theorem grp_new {s p : ByteArray} {k : Nat} (h : bt p k = 48) (g : ins p k = false) : grpL s p (k + 1) = grpL s p k ++ [bt s k - 48] := by
  simp only [grpL]; rw [if_pos h, g]; simp
theorem grp_on {s p : ByteArray} {k : Nat} {X : List Int} {v : Int} (h : bt p k = 48) (g : ins p k = true) (e : grpL s p k = X ++ [v]) : grpL s p (k + 1) = X ++ [10 * v + (bt s k - 48)] := by
  simp only [grpL]; rw [if_pos h, if_pos g, e]; simp
theorem grp_len (s p : ByteArray) : ∀ k, (grpL s p k).length ≤ k
  | 0 => by simp [grpL]
  | k + 1 => by
    have ih := grp_len s p k
    simp only [grpL]
    split
    · split
      · simp; omega
      · simp; omega
    · omega
theorem grp_last (s p : ByteArray) : ∀ k, likeTo s p k → ins p k = true → ∃ X v, grpL s p k = X ++ [v] ∧ 0 ≤ v ∧ v < 10 ^ runAt p k ∧ 1 ≤ runAt p k
  | 0, _, h => by cases h
  | k + 1, hl, h => by
    have hb : bt p k = 48 := of_decide_eq_true h
    have hd := (hl k (by omega)).1 hb
    have hr : runAt p (k + 1) = runAt p k + 1 := by simp only [runAt]; rw [if_pos hb]
    cases g : ins p k with
    | false =>
      refine ⟨_, _, grp_new hb g, by omega, ?_, by omega⟩
      have : (1 : Int) ≤ 10 ^ runAt p k := Int.pow_pos (by omega)
      rw [hr, Int.pow_succ]
      omega
    | true =>
      obtain ⟨X, v, e, h0, h1, _⟩ := grp_last s p k (fun j hj => hl j (by omega)) g
      refine ⟨_, _, grp_on hb g e, by omega, ?_, by omega⟩
      rw [hr, Int.pow_succ]
      omega
theorem ext_snoc (s : ByteArray) (i n : Nat) (h : i + n < s.size) : (s.extract i (i + (n + 1))).data.toList = (s.extract i (i + n)).data.toList ++ [s[i + n]] := by
  have e : ∀ j, (s.extract i (i + j)).data.toList = (s.data.toList.drop i).take j := fun j => by
    simp [ByteArray.data_extract, Array.toList_extract]
  rw [e, e, List.take_succ_eq_append_getElem (by simp; omega)]
  simp
  rfl
/-- A number of the pattern is the number of its bytes. -/
theorem grp_run (s p : ByteArray) (i : Nat) (h0 : ins p i = false) : ∀ n, 1 ≤ n → i + n ≤ s.size → (∀ j, i ≤ j → j < i + n → bt p j = 48) → grpL s p (i + n) = grpL s p i ++ [numL (s.extract i (i + n)).data.toList]
  | 0, h, _, _ => absurd h (by omega)
  | 1, _, hs, hp => by
    rw [show i + 1 = i + (0 + 1) by omega, ext_snoc s i 0 (by omega), grp_new (by exact hp i (by omega) (by omega)) h0]
    have := bt_of s (i + 0) (by omega)
    simp [numL]
    simpa using this
  | n + 2, _, hs, hp => by
    have ih := grp_run s p i h0 (n + 1) (by omega) (by omega) fun j a b => hp j a (by omega)
    have hi : ins p (i + (n + 1)) = true := decide_eq_true (hp (i + n) (by omega) (by omega))
    have e := grp_on (hp (i + (n + 1)) (by omega) (by omega)) hi ih
    rw [show i + (n + 2) = i + (n + 1) + 1 by omega, e, show i + (n + 1) + 1 = i + (n + 1 + 1) by omega, ext_snoc s i (n + 1) (by omega), numL_snoc, ← bt_of s (i + (n + 1)) (by omega)]
end Ap
end Go.Proofs.YtafeigpmldgifaaGreatDoor
/-
  Plain law of the texts of times: what a text says, for any string; no walk here.
-/
namespace Go.Proofs.YtafeigpmldgifaaGreatDoor
namespace Ap
open Go.RowKit Lw Go.Proofs.YtafeigpmldgifaaGreatDoor.Mp

/-- 0000-00-00T00:00:00 -/
def P19 : ByteArray := ⟨#[48, 48, 48, 48, 45, 48, 48, 45, 48, 48, 84, 48, 48, 58, 48, 48, 58, 48, 48]⟩
/-- 0000 00 00 -/
def P10 : ByteArray := ⟨#[48, 48, 48, 48, 32, 48, 48, 32, 48, 48]⟩
/-- 000000 -/
def P6 : ByteArray := ⟨#[48, 48, 48, 48, 48, 48]⟩
/-- The number of some bytes. -/
def nm (s : ByteArray) (i j : Nat) : Int := numV (s.extract i j).data.toList
def textP (s : ByteArray) : Prop := 20 ≤ s.size ∧ s.size ≠ 21 ∧ s.size ≤ 27 ∧ bt s (s.size - 1) = 90 ∧ likeP (s.extract 0 19) P19 ∧ (20 < s.size → bt s 19 = 46 ∧ 0 ≤ nm s 20 (s.size - 1))
def microV (s : ByteArray) : Int := if s.size = 20 then 0 else nm s 20 (s.size - 1) * tenI (27 - s.size)
def okText (s : ByteArray) : Prop := textP s ∧ fromOk (nm s 0 4) (nm s 5 7) (nm s 8 10) (nm s 11 13) (nm s 14 16) (nm s 17 19) (microV s)
def textV (s : ByteArray) : Int := timeOf (nm s 0 4) (nm s 5 7) (nm s 8 10) (nm s 11 13) (nm s 14 16) (nm s 17 19) (microV s)
/-- What Parse returns: the time, and the error. -/
def ParseIs (s : ByteArray) (t e : Int) : Prop := (okText s ∧ t = textV s ∧ e = 0) ∨ (¬ okText s ∧ t = 0 ∧ e = 12)
theorem ParseIs.uniq {s : ByteArray} {t e t' e' : Int} (a : ParseIs s t e) (b : ParseIs s t' e') : t = t' ∧ e = e' := by
  rcases a with ⟨a1, a2, a3⟩ | ⟨a1, a2, a3⟩ <;> rcases b with ⟨b1, b2, b3⟩ | ⟨b1, b2, b3⟩
  · exact ⟨by rw [a2, b2], by omega⟩
  · exact absurd a1 b1
  · exact absurd b1 a1
  · exact ⟨by omega, by omega⟩
def dayP (s : ByteArray) : Prop := 10 ≤ s.size ∧ s.size ≠ 11 ∧ s.size ≤ 20 ∧ likeP (s.extract 0 10) P10 ∧ (10 < s.size → bt s 10 = 46 ∧ 0 ≤ nm s 11 s.size)
def okDay (s : ByteArray) : Prop := dayP s ∧ fromOk (nm s 0 4) (nm s 5 7) (nm s 8 10) 0 0 0 0
/-- A quotient, rounded up. -/
def upI (a b : Int) : Int := a / b + (if 0 < a % b then 1 else 0)
def dayLen (y m d : Int) : Int := if d = mo y (m + 1) - mo y m ∧ lps (12 * y + m) = lps (12 * y + m - 1) + 1 then 86401000000 else 86400000000
def partV (s : ByteArray) : Int := if s.size = 10 then 0 else upI (nm s 11 s.size * dayLen (nm s 0 4) (nm s 5 7) (nm s 8 10)) (tenI (s.size - 11))
def dayV (s : ByteArray) : Int := timeOf (nm s 0 4) (nm s 5 7) (nm s 8 10) 0 0 0 0 + partV s
/-- What ParseDay returns: the time, and the error. -/
def PDayIs (s : ByteArray) (t e : Int) : Prop := (okDay s ∧ t = dayV s ∧ e = 0) ∨ (¬ okDay s ∧ t = 0 ∧ e = 12)
theorem PDayIs.uniq {s : ByteArray} {t e t' e' : Int} (a : PDayIs s t e) (b : PDayIs s t' e') : t = t' ∧ e = e' := by
  rcases a with ⟨a1, a2, a3⟩ | ⟨a1, a2, a3⟩ <;> rcases b with ⟨b1, b2, b3⟩ | ⟨b1, b2, b3⟩
  · exact ⟨by rw [a2, b2], by omega⟩
  · exact absurd a1 b1
  · exact absurd b1 a1
  · exact ⟨by omega, by omega⟩
/-! ### Head and tail -/
abbrev noPt (c : UInt8) : Bool := decide (¬ ((c.toNat : Nat) : Int) = 46)
/-- The place of the first point, or the end. -/
def ptL (l : List UInt8) : Nat := (l.takeWhile noPt).length
theorem ptL_le : ∀ l : List UInt8, ptL l ≤ l.length
  | [] => by simp [ptL]
  | c :: l => by
    have := ptL_le l
    unfold ptL at *
    rw [List.takeWhile_cons]
    split
    · simp; omega
    · simp
theorem ptL_lo : ∀ (l : List UInt8) (j : Nat) (h : j < ptL l) (g : j < l.length), ¬ ((l[j].toNat : Nat) : Int) = 46
  | [], _, _, g => absurd g (by simp)
  | c :: l, j, h, g => by
    unfold ptL at h
    rw [List.takeWhile_cons] at h
    cases hb : noPt c with
    | false => rw [hb] at h; simp at h
    | true =>
      rw [hb] at h
      cases j with
      | zero => exact of_decide_eq_true hb
      | succ j =>
        simp only [List.getElem_cons_succ]
        exact ptL_lo l j (by unfold ptL; simp at h; omega) (by simpa using g)
theorem ptL_at : ∀ (l : List UInt8) (h : ptL l < l.length), ((l[ptL l].toNat : Nat) : Int) = 46
  | [], h => absurd h (by simp)
  | c :: l, h => by
    cases hb : noPt c with
    | false =>
      have e : ptL (c :: l) = 0 := by unfold ptL; rw [List.takeWhile_cons, hb]; rfl
      have : ((c :: l)[ptL (c :: l)]) = c := by simp only [e]; rfl
      rw [this]
      have := of_decide_eq_false hb
      omega
    | true =>
      have e : ptL (c :: l) = ptL l + 1 := by unfold ptL; rw [List.takeWhile_cons, hb]; simp
      have := ptL_at l (by rw [e] at h; simpa using h)
      have e2 : ((c :: l)[ptL (c :: l)]) = l[ptL l]'(by rw [e] at h; simpa using h) := by simp only [e]; rfl
      rw [e2]; exact this
theorem ptL_uniq {l : List UInt8} {q : Nat} (h : q ≤ l.length) (h1 : ∀ j (g : j < l.length), j < q → ¬ ((l[j].toNat : Nat) : Int) = 46) (h2 : ∀ g : q < l.length, ((l[q].toNat : Nat) : Int) = 46) : ptL l = q := by
  have a := ptL_le l
  rcases Nat.lt_trichotomy (ptL l) q with c | c | c
  · exact absurd (ptL_at l (by omega)) (h1 _ (by omega) c)
  · exact c
  · exact absurd (h2 (by omega)) (ptL_lo l q c (by omega))
end Ap
end Go.Proofs.YtafeigpmldgifaaGreatDoor
/-
  Head and tail of a string: strings.Cut at a point, strings.CutSuffix of a Z.
-/
namespace Go.Proofs.YtafeigpmldgifaaGreatDoor
namespace Ap
open Go.RowKit Lw

theorem point_iff (c : UInt8) : (c == 46) = true ↔ ((c.toNat : Nat) : Int) = 46 := by
  have e : c = 46 ↔ c.toNat = (46 : UInt8).toNat := UInt8.toNat_inj.symm
  have h46 : (46 : UInt8).toNat = 46 := rfl
  rw [beq_iff_eq, e, h46]
  omega
theorem idx_pt : ∀ l : List UInt8, Lib.indexByte l 46 = if ptL l < l.length then ((ptL l : Nat) : Int) else -1
  | [] => rfl
  | b :: l => by
    have ih := idx_pt l
    unfold ptL at ih ⊢
    unfold Lib.indexByte
    by_cases h : (b == 46) = true
    · have hb : noPt b = false := decide_eq_false (not_not_intro ((point_iff b).1 h))
      rw [if_pos h, List.takeWhile_cons, hb]
      simp
    · have hb : noPt b = true := decide_eq_true fun g => h ((point_iff b).2 g)
      rw [if_neg h, List.takeWhile_cons, if_pos hb, ih]
      simp only [List.length_cons, beq_iff_eq]
      by_cases g : (l.takeWhile noPt).length < l.length
      · rw [if_pos g, if_neg (by omega), if_pos (by omega)]
        omega
      · rw [if_neg g, if_pos rfl, if_neg (by omega)]
/-- The place of the first point of a string. -/
def ptS (s : ByteArray) : Nat := ptL s.data.toList
def hdP (s : ByteArray) : ByteArray := s.extract 0 (ptS s)
def tlP (s : ByteArray) : ByteArray := if ptS s < s.size then s.extract (ptS s + 1) s.size else ⟨#[]⟩
theorem ptS_le (s : ByteArray) : ptS s ≤ s.size := by have := ptL_le s.data.toList; unfold ptS; simpa using this
theorem extract_all (s : ByteArray) : s.extract 0 s.size = s := by simp
/-- Does a string end in a Z? -/
def zP (s : ByteArray) : Prop := 1 ≤ s.size ∧ bt s (s.size - 1) = 90
instance (s : ByteArray) : Decidable (zP s) := by unfold zP; infer_instance
def noZ (s : ByteArray) : ByteArray := if zP s then s.extract 0 (s.size - 1) else s
theorem suf_z (s : ByteArray) : Lib.hasSuffix s.data.toList [90] = decide (zP s) := by
  unfold Lib.hasSuffix
  rw [Bool.eq_iff_iff, decide_eq_true_iff, List.isSuffixOf_iff_suffix]
  constructor
  · rintro ⟨r, h⟩
    have hl := congrArg List.length h
    simp at hl
    refine ⟨by omega, ?_⟩
    rw [bt_of s _ (by omega)]
    have e : s[s.size - 1]'(by omega) = s.data.toList[s.size - 1]'(by simp; omega) := rfl
    rw [e]
    have : s.data.toList[s.size - 1]'(by simp; omega) = (r ++ [90])[s.size - 1]'(by simp; omega) := by simp only [h]
    rw [this, List.getElem_append_right (by omega)]
    simp
  · rintro ⟨h1, h2⟩
    rw [bt_of s _ (by omega)] at h2
    refine ⟨s.data.toList.take (s.size - 1), ?_⟩
    have e := take_snoc s (s.size - 1) (by omega)
    have hz : s[s.size - 1] = 90 := by
      apply UInt8.toNat_inj.1
      have : (90 : UInt8).toNat = 90 := rfl
      omega
    rw [hz, show s.size - 1 + 1 = s.size by omega] at e
    rw [← e]
    exact List.take_of_length_le (by simp)
end Ap
end Go.Proofs.YtafeigpmldgifaaGreatDoor
