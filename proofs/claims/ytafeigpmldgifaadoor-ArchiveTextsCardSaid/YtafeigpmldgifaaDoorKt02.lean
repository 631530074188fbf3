/-
  Lemmas and walks, texts joined: Frame, DPl, DTxt, KChPl, KRdPl, Shelf, Shelf5, DIdx, DIdx2, DWhole, DWalk1, DPad, DNext.
-/
import Derived.Lib.SmallJoins
import Derived.WalkKit
import Derived.Lib.ItoaLen
import Derived.Lib.Repeat
import Derived.Lib.ItoaNum
import Derived.Lib.IndexMore
import Derived.Shelf.Bits.Mul64
import Derived.Shelf.LaysM
import Derived.Shelf.Pu.ParseUintPublic10
import Derived.Shelf.SlicesE.Clone
import Derived.Shelf.Small.Bits
import Derived.Shelf.Small.Strs
import Derived.Shelf.Small.Utf8
import Derived.Shelf.Small.Wraps
import Derived.Shelf.Strconv.Itoa0
import Derived.Shelf.Strconv.Itoa1
import Derived.Shelf.Strconv.Itoa2
import Derived.Shelf.Strconv.Itoa3
import Derived.Shelf.Strconv.Itoa4
import Derived.Shelf.Strings.Builder1
import Derived.Shelf.Strings.Builder2
import Derived.Shelf.Strings.BuilderF
import Derived.Shelf.Strings.Cut
import Derived.Shelf.Strings.OnBuilder
import Derived.Shelf.Strings.Prefix
import Derived.Shelf.Strings.Repeat
import Derived.Shelf.Strings.Runes
import Derived.Shelf.Strings.Search1
import Derived.Shelf.Strings.Search2
import Derived.Shelf.Strings.Shaped
import Derived.Shelf.Strings.SlTrimAscii
import Derived.Shelf.Strings.Trim
import Derived.ProofKit
import Derived.Outline
import Derived.Lib.Hide
import Derived.Laws.RangeAny
import Derived.Laws.Runes
import Derived.LoopTactic
import Derived.Deep.QuietTactic
import Derived.BigQuiet
import Derived.Lib.Bytealg
import Derived.WalkMore
import Derived.Lib.Strings
import Derived.Lib.LaidTab
import Derived.WalkLawsBesides
import Derived.WalkSpells
import Derived.Laws.Concat
import Derived.Laws.IdiomStrings
import Derived.Lib.Join
import Derived.Sort.Grow
import Derived.Deep.OwnRows
import Derived.Test.YtafeigpmldgifaaDoorKt01
import Derived.Test.YtafeigpmldgifaaDoorProg
import Derived.Test.YtafeigpmldgifaaDoorRows
set_option linter.unusedSimpArgs false
set_option linter.unusedVariables false
/-
  Opening an argument that is a struct by value, whatever the number of its one-cell fields; for any program.
-/
namespace Go.Proofs.YtafeigpmldgifaaDoor
namespace Fr
open Go.Joins Go.ChangeShapes Go.WideShapes Go.RowKit Go.Deep

section
variable {H : Type} {enc : TypeId × Value → H} {P : Program} {w : World} {base : Nat} {spare : Nat → Bool} {held : Bool}
theorem open_agg {r : Reach} {b0 : Nat} {t : TypeId} {fs : Array Field} {v : Value} {d : DataW H} {p : List MemPlace} (hs : P.underlying t = some (.struct fs)) (hone : oneCellFields P fs = true) (hC : P.cellsOf t = fs.size)
    (hv : Value.okWide P w r b0 t v) (h : DataW.Trod enc P w base spare held t v d p) :
    ∃ l : List Value, v = .agg l.toArray ∧ l.length = fs.size ∧ ∃ n : Nat, ∀ (j : Nat) (f : Field) (c : Value), fs[j]? = some f → l[j]? = some c → ∃ y, DataW.trod enc P w base spare held n f.type [c] = some y := by
  obtain ⟨cs, rfl, hsz⟩ := okWide_struct hs hv
  obtain ⟨l⟩ := cs
  have hl : l.length = fs.size := hsz.trans hC
  obtain ⟨fuel, hf⟩ := h
  obtain ⟨xs, n, _, hx, _, hlen, hg⟩ := DataW.trod_struct hs hf
  refine ⟨l, rfl, hl, n, fun j f c hj hc => ?_⟩
  obtain ⟨o, k⟩ := hone_of hone j f hj
  have hjl : j < l.length := (List.getElem?_eq_some_iff.1 hc).1
  have h1 := hg j f hj
  rw [o, k] at h1
  have e : ((Value.agg l.toArray).cells.toList.drop j).take 1 = [c] := by
    show (l.drop j).take 1 = [c]
    rw [List.drop_eq_getElem_cons hjl]
    have := (List.getElem?_eq_some_iff.1 hc).2
    simp [this]
  rw [e] at h1
  have hxl : j < xs.length := by omega
  exact ⟨xs[j], h1.trans (List.getElem?_eq_getElem hxl)⟩
end
theorem one_eq {a b : Value} (h : [a] = [b]) : a = b := by injection h
theorem list2 {l : List Value} (h : l.length = 2) : ∃ a b, l = [a, b] := by match l, h with | [a, b], _ => exact ⟨a, b, rfl⟩
theorem list3 {l : List Value} (h : l.length = 3) : ∃ a b c, l = [a, b, c] := by match l, h with | [a, b, c], _ => exact ⟨a, b, c, rfl⟩
theorem list4 {l : List Value} (h : l.length = 4) : ∃ a b c d, l = [a, b, c, d] := by match l, h with | [a, b, c, d], _ => exact ⟨a, b, c, d, rfl⟩
theorem list5 {l : List Value} (h : l.length = 5) : ∃ a b c d e, l = [a, b, c, d, e] := by match l, h with | [a, b, c, d, e], _ => exact ⟨a, b, c, d, e, rfl⟩
theorem list6 {l : List Value} (h : l.length = 6) : ∃ a b c d e f, l = [a, b, c, d, e, f] := by match l, h with | [a, b, c, d, e, f], _ => exact ⟨a, b, c, d, e, f, rfl⟩
theorem list7 {l : List Value} (h : l.length = 7) : ∃ a b c d e f g, l = [a, b, c, d, e, f, g] := by match l, h with | [a, b, c, d, e, f, g], _ => exact ⟨a, b, c, d, e, f, g, rfl⟩
theorem list8 {l : List Value} (h : l.length = 8) : ∃ a b c d e f g i, l = [a, b, c, d, e, f, g, i] := by match l, h with | [a, b, c, d, e, f, g, i], _ => exact ⟨a, b, c, d, e, f, g, i, rfl⟩
end Fr
end Go.Proofs.YtafeigpmldgifaaDoor
/-
  Plain facts on designations: order letters, and which ones are valid; no program in sight.
-/
namespace Go.Proofs.YtafeigpmldgifaaDoor
namespace Dp

def ordL : List Int := [65, 66, 67, 68, 69, 70, 71, 72, 74, 75, 76, 77, 78, 79, 80, 81, 82, 83, 84, 85, 86, 87, 88, 89, 90]
def ordAt (j : Nat) : Int := ordL.getD j 0
/-- The place of an order letter, or -1. -/
def placeI (c : Int) : Int := if 65 ≤ c ∧ c ≤ 72 then c - 65 else if 74 ≤ c ∧ c ≤ 90 then c - 66 else -1
theorem place_ord : ∀ j, j < 25 → placeI (ordAt j) = j := by decide
theorem ord_bd : ∀ j, j < 25 → 65 ≤ ordAt j ∧ ordAt j ≤ 90 := by decide
theorem place_some : ∀ c : Nat, c < 256 → placeI c = -1 ∨ (0 ≤ placeI c ∧ placeI c < 25 ∧ ordAt (placeI c).toNat = c) := by decide +kernel
def Before (c : Int) (j : Nat) : Prop := ∀ i, i < j → ordAt i ≠ c
theorem place_none {c : Int} (h0 : 0 ≤ c) (h1 : c < 256) (h : Before c 25) : placeI c = -1 := by
  have := place_some c.toNat (by omega)
  rw [show ((c.toNat : Nat) : Int) = c by omega] at this
  rcases this with h' | ⟨a, b, e⟩
  · exact h'
  · exact absurd e (h _ (by omega))
theorem before_0 (c : Int) : Before c 0 := fun i h => absurd h (by omega)
theorem before_s {c : Int} {j : Nat} (h : Before c j) (g : ordAt j ≠ c) : Before c (j + 1) := fun i hi => by
  by_cases e : i = j
  · subst e; exact g
  · exact h i (by omega)
def halfP (h : Int) : Prop := 65 ≤ h ∧ h ≤ 89 ∧ h ≠ 73
def secP (s : Int) : Prop := 65 ≤ s ∧ s ≤ 90 ∧ s ≠ 73
instance (h : Int) : Decidable (halfP h) := by unfold halfP; infer_instance
instance (s : Int) : Decidable (secP s) := by unfold secP; infer_instance
/-- The same as Bools that a walk leaves as they stand. -/
def halfB (h : Int) : Bool := decide (halfP h)
def secB (s : Int) : Bool := decide (secP s)
theorem halfB_iff (h : Int) : halfB h = true ↔ halfP h := decide_eq_true_iff
theorem secB_iff (h : Int) : secB h = true ↔ secP h := decide_eq_true_iff
theorem halfB_true {h : Int} (g : halfP h) : true = halfB h := ((halfB_iff h).2 g).symm
theorem halfB_false {h : Int} (g : ¬ halfP h) : false = halfB h := (decide_eq_false g).symm
theorem secB_true {h : Int} (g : secP h) : true = secB h := ((secB_iff h).2 g).symm
theorem secB_false {h : Int} (g : ¬ secP h) : false = secB h := (decide_eq_false g).symm
theorem halfP_iff (h : Int) : halfP h ↔ 0 ≤ placeI h ∧ placeI h < 24 := by unfold halfP placeI; split <;> (try split) <;> omega
theorem secP_iff (h : Int) : secP h ↔ 0 ≤ placeI h := by unfold secP placeI; split <;> (try split) <;> omega
def okD (n y h s c : Int) : Prop := (n ≠ 0 ∧ y = 0 ∧ h = 0 ∧ s = 0 ∧ c = 0 ∧ 0 < n ∧ n ≤ 15396335) ∨ (n = 0 ∧ 1800 ≤ y ∧ y ≤ 2099 ∧ halfP h ∧ secP s ∧ 0 ≤ c ∧ c ≤ 619)
instance (n y h s c : Int) : Decidable (okD n y h s c) := by unfold okD halfP secP; infer_instance
/-- The error of Check. -/
def errC (n y h s c : Int) : Int := if okD n y h s c then 0 else 8
theorem errC_ok {n y h s c : Int} (g : okD n y h s c) : errC n y h s c = 0 := if_pos g
theorem errC_no {n y h s c : Int} (g : ¬ okD n y h s c) : errC n y h s c = 8 := if_neg g
theorem errC_two (n y h s c : Int) : errC n y h s c = 0 ∧ okD n y h s c ∨ errC n y h s c = 8 ∧ ¬ okD n y h s c := by
  by_cases g : okD n y h s c
  · exact Or.inl ⟨errC_ok g, g⟩
  · exact Or.inr ⟨errC_no g, g⟩
/-- Comparing numbers. -/
def sgn (a b : Int) : Int := if a < b then -1 else if b < a then 1 else 0
theorem sgn_lt {a b : Int} (h : a < b) : sgn a b = -1 := if_pos h
theorem sgn_gt {a b : Int} (h : b < a) : sgn a b = 1 := by unfold sgn; rw [if_neg (by omega), if_pos h]
theorem sgn_eq {a b : Int} (h : a = b) : sgn a b = 0 := by unfold sgn; rw [if_neg (by omega), if_neg (by omega)]
theorem sgn_bd (a b : Int) : -1 ≤ sgn a b ∧ sgn a b ≤ 1 := by unfold sgn; split <;> (try split) <;> omega
/-- The first one that is not 0. -/
def orr (a b : Int) : Int := if a = 0 then b else a
def seqAt (l : List Int) (j : Nat) : Int := l.getD j 0
def orRem (f : Nat → Int) (j : Nat) : Nat → Int
  | 0 => 0
  | r + 1 => if f j = 0 then orRem f (j + 1) r else f j
theorem or_six (a b c d e f : Int) : orRem (seqAt [a, b, c, d, e, f]) 0 6 = orr a (orr b (orr c (orr d (orr e f)))) := by
  simp [orRem, seqAt, orr]
  repeat' split
  all_goals simp_all
def min1 (a : Int) : Int := if 1 ≤ a then 1 else a
/-- Comparing designations, as the program does it. -/
def cmpP (n y h s c n' y' h' s' c' : Int) : Int := orr (-(sgn (min1 n) (min1 n'))) (orr (sgn n n') (orr (sgn y y') (orr (sgn h h') (orr (sgn c c') (sgn s s')))))
/-- The numbers that the reference compares. -/
def big (n : Int) : Int := if n = 0 then 15396336 else n
def cmpR (n y h s c n' y' h' s' c' : Int) : Int := orr (sgn (big n) (big n')) (orr (sgn y y') (orr (sgn h h') (orr (sgn c c') (sgn s s'))))
theorem cmp_same {n y h s c n' y' h' s' c' : Int} (g : okD n y h s c) (g' : okD n' y' h' s' c') : cmpP n y h s c n' y' h' s' c' = cmpR n y h s c n' y' h' s' c' := by
  have a : 0 ≤ n ∧ n ≤ 15396335 := by unfold okD at g; omega
  have b : 0 ≤ n' ∧ n' ≤ 15396335 := by unfold okD at g'; omega
  clear g g'
  unfold cmpP cmpR big min1
  by_cases h1 : n = 0
  · by_cases h2 : n' = 0
    · subst h1 h2
      simp [sgn, orr]
    · subst h1
      rw [sgn_lt (a := if 1 ≤ (0 : Int) then 1 else 0) (b := if 1 ≤ n' then 1 else n') (by rw [if_neg (by omega), if_pos (by omega)]; omega), sgn_gt (a := if (0 : Int) = 0 then 15396336 else 0) (b := if n' = 0 then 15396336 else n') (by rw [if_pos rfl, if_neg h2]; omega)]
      rfl
  · by_cases h2 : n' = 0
    · subst h2
      rw [sgn_gt (b := if 1 ≤ (0 : Int) then 1 else 0) (a := if 1 ≤ n then 1 else n) (by rw [if_neg (by omega), if_pos (by omega)]; omega), sgn_lt (b := if (0 : Int) = 0 then 15396336 else 0) (a := if n = 0 then 15396336 else n) (by rw [if_pos rfl, if_neg h1]; omega)]
      rfl
    · rw [sgn_eq (a := if 1 ≤ n then 1 else n) (b := if 1 ≤ n' then 1 else n') (by rw [if_pos (by omega), if_pos (by omega)]), if_neg h1, if_neg h2]
      rfl
/-- What Compare returns. -/
def CmpIs (n y h s c n' y' h' s' c' v k : Int) : Prop := (okD n y h s c ∧ okD n' y' h' s' c' ∧ v = cmpR n y h s c n' y' h' s' c' ∧ k = 0) ∨ (¬ (okD n y h s c ∧ okD n' y' h' s' c') ∧ v = 0 ∧ k = 8)
theorem CmpIs.uniq {n y h s c n' y' h' s' c' v k v' k' : Int} (a : CmpIs n y h s c n' y' h' s' c' v k) (b : CmpIs n y h s c n' y' h' s' c' v' k') : v = v' ∧ k = k' := by
  rcases a with ⟨a1, a2, a3, a4⟩ | ⟨a1, a2, a3⟩ <;> rcases b with ⟨b1, b2, b3, b4⟩ | ⟨b1, b2, b3⟩
  · exact ⟨a3.trans b3.symm, a4.trans b4.symm⟩
  · exact absurd ⟨a1, a2⟩ b1
  · exact absurd ⟨b1, b2⟩ a1
  · exact ⟨a2.trans b2.symm, a3.trans b3.symm⟩
theorem okD_bd {n y h s c : Int} (g : okD n y h s c) : 0 ≤ n ∧ n ≤ 15396335 := by unfold okD at g; omega
/-- The half-month letter of a date. -/
def halfLet (m d : Int) : Int := ordAt (2 * m.toNat - 2 + (if 15 < d then 1 else 0))
/-- What Half returns. -/
def HalfIs (m d v k : Int) : Prop := (1 ≤ m ∧ m ≤ 12 ∧ 1 ≤ d ∧ d ≤ 31 ∧ v = halfLet m d ∧ k = 0) ∨ (¬ (1 ≤ m ∧ m ≤ 12 ∧ 1 ≤ d ∧ d ≤ 31) ∧ v = 0 ∧ k = 2)
theorem HalfIs.uniq {m d v k v' k' : Int} (a : HalfIs m d v k) (b : HalfIs m d v' k') : v = v' ∧ k = k' := by
  rcases a with ⟨a1, a2, a3, a4, a5, a6⟩ | ⟨a1, a2, a3⟩ <;> rcases b with ⟨b1, b2, b3, b4, b5, b6⟩ | ⟨b1, b2, b3⟩
  · exact ⟨a5.trans b5.symm, a6.trans b6.symm⟩
  · exact absurd ⟨a1, a2, a3, a4⟩ b1
  · exact absurd ⟨b1, b2, b3, b4⟩ a1
  · exact ⟨a2.trans b2.symm, a3.trans b3.symm⟩
theorem or12 {m : Int} (a : 1 ≤ m) (b : m ≤ 12) : m = 1 ∨ m = 2 ∨ m = 3 ∨ m = 4 ∨ m = 5 ∨ m = 6 ∨ m = 7 ∨ m = 8 ∨ m = 9 ∨ m = 10 ∨ m = 11 ∨ m = 12 := by omega
/-- A list of designations, field by field. -/
structure Ls where
  N : Nat → Int
  Y : Nat → Int
  U : Nat → Int
  S : Nat → Int
  C : Nat → Int
def okL (L : Ls) (k : Nat) : Prop := okD (L.N k) (L.Y k) (L.U k) (L.S k) (L.C k)
def errL (L : Ls) (k : Nat) : Int := errC (L.N k) (L.Y k) (L.U k) (L.S k) (L.C k)
/-- The order of a designation within its half-month. -/
def codeL (L : Ls) (k : Nat) : Int := 25 * L.C k + placeI (L.S k)
def hitL (L : Ls) (y h : Int) (k : Nat) : Prop := L.N k = 0 ∧ L.Y k = y ∧ L.U k = h
instance (L : Ls) (y h : Int) (k : Nat) : Decidable (hitL L y h k) := by unfold hitL; infer_instance
/-- The order behind the designations of a half-month among the first ones. -/
def nextTo (L : Ls) (y h : Int) : Nat → Int
  | 0 => 0
  | k + 1 => if hitL L y h k then (if nextTo L y h k < codeL L k + 1 then codeL L k + 1 else nextTo L y h k) else nextTo L y h k
def okTo (L : Ls) (k : Nat) : Prop := ∀ j, j < k → okL L j
theorem okTo_0 (L : Ls) : okTo L 0 := fun j h => absurd h (by omega)
theorem okTo_s {L : Ls} {k : Nat} (h : okTo L k) (g : okL L k) : okTo L (k + 1) := fun j hj => by
  by_cases e : j = k
  · subst e; exact g
  · exact h j (by omega)
theorem code_bd {L : Ls} {k : Nat} (g : okL L k) (h0 : L.N k = 0) : 0 ≤ codeL L k ∧ codeL L k ≤ 15499 ∧ 0 ≤ L.C k ∧ L.C k ≤ 619 ∧ 0 ≤ placeI (L.S k) ∧ placeI (L.S k) < 25 := by
  unfold okL okD at g
  unfold codeL
  have hp : secP (L.S k) := by
    rcases g with g | g
    · omega
    · exact g.2.2.2.2.1
  have h1 := (secP_iff (L.S k)).1 hp
  have h2 : placeI (L.S k) < 25 := by unfold placeI; split <;> (try split) <;> omega
  have h3 : 0 ≤ L.C k ∧ L.C k ≤ 619 := by
    rcases g with g | g
    · omega
    · exact ⟨g.2.2.2.2.2.1, g.2.2.2.2.2.2⟩
  omega
theorem next_bd {L : Ls} {y h : Int} {k : Nat} (g : okTo L k) : 0 ≤ nextTo L y h k ∧ nextTo L y h k ≤ 15500 := by
  induction k with
  | zero => simp [nextTo]
  | succ k ih =>
    have ih := ih (fun j hj => g j (by omega))
    simp only [nextTo]
    by_cases c : hitL L y h k
    · rw [if_pos c]
      have := code_bd (g k (by omega)) c.1
      split <;> omega
    · rw [if_neg c]; exact ih
/-- What Next returns. -/
def NextIs (L : Ls) (n : Nat) (y h : Int) (rn ry rh rs rc k : Int) : Prop :=
  (¬ (1800 ≤ y ∧ y ≤ 2099 ∧ halfP h) ∧ rn = 0 ∧ ry = 0 ∧ rh = 0 ∧ rs = 0 ∧ rc = 0 ∧ k = 2) ∨
  ((1800 ≤ y ∧ y ≤ 2099 ∧ halfP h) ∧ 1000 < n ∧ rn = 0 ∧ ry = 0 ∧ rh = 0 ∧ rs = 0 ∧ rc = 0 ∧ k = 4) ∨
  ((1800 ≤ y ∧ y ≤ 2099 ∧ halfP h) ∧ n ≤ 1000 ∧ ¬ okTo L n ∧ rn = 0 ∧ ry = 0 ∧ rh = 0 ∧ rs = 0 ∧ rc = 0 ∧ k = 8) ∨
  ((1800 ≤ y ∧ y ≤ 2099 ∧ halfP h) ∧ n ≤ 1000 ∧ okTo L n ∧ 619 < nextTo L y h n / 25 ∧ rn = 0 ∧ ry = 0 ∧ rh = 0 ∧ rs = 0 ∧ rc = 0 ∧ k = 16) ∨
  ((1800 ≤ y ∧ y ≤ 2099 ∧ halfP h) ∧ n ≤ 1000 ∧ okTo L n ∧ nextTo L y h n / 25 ≤ 619 ∧ rn = 0 ∧ ry = y ∧ rh = h ∧ rs = ordAt (nextTo L y h n % 25).toNat ∧ rc = nextTo L y h n / 25 ∧ k = 0)
theorem NextIs.uniq {L : Ls} {n : Nat} {y h a1 a2 a3 a4 a5 a6 b1 b2 b3 b4 b5 b6 : Int} (a : NextIs L n y h a1 a2 a3 a4 a5 a6) (b : NextIs L n y h b1 b2 b3 b4 b5 b6) : a1 = b1 ∧ a2 = b2 ∧ a3 = b3 ∧ a4 = b4 ∧ a5 = b5 ∧ a6 = b6 := by
  rcases a with ⟨x, a⟩ | ⟨x, x2, a⟩ | ⟨x, x2, x3, a⟩ | ⟨x, x2, x3, x4, a⟩ | ⟨x, x2, x3, x4, a⟩ <;> rcases b with ⟨z, b⟩ | ⟨z, z2, b⟩ | ⟨z, z2, z3, b⟩ | ⟨z, z2, z3, z4, b⟩ | ⟨z, z2, z3, z4, b⟩
  all_goals first
    | exact absurd z x
    | exact absurd x z
    | exact absurd z3 x3
    | exact absurd x3 z3
    | omega
end Dp
end Go.Proofs.YtafeigpmldgifaaDoor
/-
  Plain facts on the texts and packed forms of designations: digits, numerals, what a text is read as; no program in sight.
-/
namespace Go.Proofs.YtafeigpmldgifaaDoor
namespace Dp
open Go.RowKit

/-- What one of the 62 digits stands for; 99: it is none. -/
def worthN (c : UInt8) : Nat := if 48 ≤ c.toNat ∧ c.toNat ≤ 57 then c.toNat - 48 else if 65 ≤ c.toNat ∧ c.toNat ≤ 90 then c.toNat - 55 else if 97 ≤ c.toNat ∧ c.toNat ≤ 122 then c.toNat - 61 else 99
def dig62 (n : Nat) : UInt8 := UInt8.ofNat (if n < 10 then 48 + n else if n < 36 then 55 + n else 61 + n)
theorem worth_dig : ∀ n, n < 62 → worthN (dig62 n) = n := by decide
theorem dig62_lt {n : Nat} (h : n < 10) : dig62 n = UInt8.ofNat (48 + n) := by unfold dig62; rw [if_pos h]
def valN (b : Nat) (l : List UInt8) : Nat := l.foldl (fun n c => n * b + worthN c) 0
def allW (b : Nat) (l : List UInt8) : Prop := ∀ c ∈ l, worthN c < b
instance (b : Nat) (l : List UInt8) : Decidable (allW b l) := by unfold allW; infer_instance
theorem valN_snoc (b : Nat) (l : List UInt8) (c : UInt8) : valN b (l ++ [c]) = valN b l * b + worthN c := by simp [valN]
theorem allW_snoc {b : Nat} {l : List UInt8} {c : UInt8} (h : allW b l) (h1 : worthN c < b) : allW b (l ++ [c]) := fun x hx => by
  rcases List.mem_append.1 hx with g | g
  · exact h x g
  · have := List.mem_singleton.1 g; subst this; exact h1
theorem allW_head {b : Nat} {l : List UInt8} {c : UInt8} (h : allW b (c :: l)) : worthN c < b := h c (List.mem_cons_self ..)
theorem allW_tail {b : Nat} {l : List UInt8} {c : UInt8} (h : allW b (c :: l)) : allW b l := fun x hx => h x (List.mem_cons_of_mem _ hx)
theorem allW_nil (b : Nat) : allW b [] := fun c hc => absurd hc (by simp)
theorem allW_cons {b : Nat} {l : List UInt8} {c : UInt8} (h1 : worthN c < b) (h : allW b l) : allW b (c :: l) := fun x hx => by
  rcases List.mem_cons.1 hx with rfl | g
  · exact h1
  · exact h x g
theorem dd_val (u : Nat) : valN 10 (Lib.decDigits u) = u ∧ allW 10 (Lib.decDigits u) := by
  induction u using Nat.strongRecOn with
  | _ u ih =>
    by_cases h : u < 10
    · rw [Lib.decDigits_one h, ← dig62_lt h]
      have e := worth_dig u (by omega)
      refine ⟨by unfold valN; simp only [List.foldl_cons, List.foldl_nil]; omega, fun c hc => ?_⟩
      rw [List.mem_singleton.1 hc]
      omega
    · rw [Lib.decDigits, dif_neg h, ← dig62_lt (Nat.mod_lt u (by omega))]
      obtain ⟨h1, h2⟩ := ih (u / 10) (by omega)
      have e := worth_dig (u % 10) (by omega)
      exact ⟨by rw [valN_snoc, h1]; omega, allW_snoc h2 (by omega)⟩
theorem itoa_nat (r : Nat) : Lib.itoa (r : Int) = Lib.decDigits r := by
  unfold Lib.itoa
  rw [if_neg (by omega), Int.toNat_natCast]
/-- A number with at least so many digits. -/
def padL (n : Int) (d : Nat) : List UInt8 := Lib.repeatL [48] (d - (Lib.itoa n).length) ++ Lib.itoa n
theorem rep_len (k : Nat) : (Lib.repeatL [48] k).length = k := by
  induction k with
  | zero => rfl
  | succ k ih => simp_all [Lib.repeatL]
theorem rep_val (b : Nat) (hb : 0 < b) (k : Nat) : valN b (Lib.repeatL [48] k) = 0 ∧ allW b (Lib.repeatL [48] k) := by
  induction k with
  | zero => exact ⟨rfl, fun c hc => by simp [Lib.repeatL] at hc⟩
  | succ k ih =>
    have e : Lib.repeatL [48] (k + 1) = 48 :: Lib.repeatL [48] k := rfl
    rw [e]
    refine ⟨?_, allW_cons hb ih.2⟩
    have := ih.1
    unfold valN at this ⊢
    rw [List.foldl_cons, show 0 * b + worthN 48 = 0 by rw [Nat.zero_mul]; decide]
    exact this
theorem pad_val (r d : Nat) : valN 10 (padL (r : Int) d) = r ∧ allW 10 (padL (r : Int) d) := by
  have h1 := dd_val r
  rw [← itoa_nat] at h1
  have h2 := rep_val 10 (by omega) (d - (Lib.itoa (r : Int)).length)
  refine ⟨?_, fun c hc => ?_⟩
  · unfold padL valN
    rw [List.foldl_append]
    have e2 := h2.1
    have e1 := h1.1
    unfold valN at e1 e2
    rw [e2, e1]
  · rcases List.mem_append.1 hc with g | g
    · exact h2.2 c g
    · exact h1.2 c g
theorem nd_le : ∀ (d r : Nat), r < 10 ^ (d + 1) → Lib.nDigits r ≤ d + 1
  | 0, r, h => by rw [Lib.nDigits_small (by simpa using h)]; exact Nat.le_refl _
  | d + 1, r, h => by
    by_cases g : r < 10
    · rw [Lib.nDigits_small g]; omega
    · rw [Lib.nDigits_big g]
      have := nd_le d (r / 10) (by rw [Nat.pow_succ] at h; omega)
      omega
theorem itoa_len (r d : Nat) (h : r < 10 ^ (d + 1)) : 1 ≤ (Lib.itoa (r : Int)).length ∧ (Lib.itoa (r : Int)).length ≤ d + 1 := by
  rw [itoa_nat, Lib.decDigits_length]
  exact ⟨Lib.nDigits_pos r, nd_le d r h⟩
theorem pad_size (r d : Nat) (h : r < 10 ^ (d + 1)) : (padL (r : Int) (d + 1)).length = d + 1 := by
  have h1 := itoa_len r d h
  unfold padL
  rw [List.length_append, rep_len]
  omega
theorem pad_none (r d : Nat) (h : d ≤ 1) : padL (r : Int) d = Lib.itoa (r : Int) := by
  have h1 := Lib.nDigits_pos r
  unfold padL
  rw [show d - (Lib.itoa (r : Int)).length = 0 by rw [itoa_nat, Lib.decDigits_length]; omega]
  rfl
/-- A designation. -/
structure Dg where
  n : Int
  y : Int
  h : Int
  s : Int
  c : Int
abbrev okG (d : Dg) : Prop := okD d.n d.y d.h d.s d.c
abbrev zeroG : Dg := ⟨0, 0, 0, 0, 0⟩
def b8 (x : Int) : UInt8 := UInt8.ofNat x.toNat
theorem b8_of {x : Int} (h0 : 0 ≤ x) (h1 : x < 256) : ((b8 x).toNat : Int) = x := by
  unfold b8
  rw [UInt8.toNat_ofNat']
  omega
theorem half_bd {h : Int} (g : halfP h) : 0 ≤ h ∧ h < 256 := by unfold halfP at g; omega
theorem sec_bd {h : Int} (g : secP h) : 0 ≤ h ∧ h < 256 := by unfold secP at g; omega
/-- The text of a designation. -/
def textG (d : Dg) : List UInt8 := if 0 < d.n then Lib.itoa d.n else Lib.itoa d.y ++ [32, b8 d.h, b8 d.s] ++ (if 0 < d.c then Lib.itoa d.c else [])
/-- A number of 620,000 and more is packed less these. -/
def lessL (n : Int) : Nat := (n - 620000).toNat
theorem lessL_is {n : Int} (h : 620000 ≤ n) : (lessL n : Int) = n - 620000 := by unfold lessL; omega
def bigL (m : Nat) : List UInt8 := [126, dig62 (m / 238328), dig62 (m / 3844 % 62), dig62 (m / 62 % 62), dig62 (m % 62)]
theorem bigL_is (m : Nat) (h : m < 14776336) : allW 62 [dig62 (m / 238328), dig62 (m / 3844 % 62), dig62 (m / 62 % 62), dig62 (m % 62)] ∧ valN 62 [dig62 (m / 238328), dig62 (m / 3844 % 62), dig62 (m / 62 % 62), dig62 (m % 62)] = m := by
  have a1 := worth_dig (m / 238328) (by omega)
  have a2 := worth_dig (m / 3844 % 62) (by omega)
  have a3 := worth_dig (m / 62 % 62) (by omega)
  have a4 := worth_dig (m % 62) (by omega)
  refine ⟨allW_cons (by omega) (allW_cons (by omega) (allW_cons (by omega) (allW_cons (by omega) (allW_nil _)))), ?_⟩
  simp only [valN, List.foldl_cons, List.foldl_nil, a1, a2, a3, a4]
  omega
/-- The packed form of a designation. -/
def packG (d : Dg) : List UInt8 :=
  if 620000 ≤ d.n then bigL (lessL d.n)
  else if 0 < d.n then dig62 (d.n.toNat / 10000) :: padL ((d.n.toNat % 10000 : Nat) : Int) 4
  else b8 (d.y / 100 + 55) :: (padL ((d.y.toNat % 100 : Nat) : Int) 2 ++ [b8 d.h, dig62 (d.c.toNat / 10), dig62 (d.c.toNat % 10), b8 d.s])
theorem len4 {l : List UInt8} (h : l.length = 4) : ∃ a b c e, l = [a, b, c, e] := by
  match l, h with
  | [a, b, c, e], _ => exact ⟨a, b, c, e, rfl⟩
theorem len2 {l : List UInt8} (h : l.length = 2) : ∃ a b, l = [a, b] := by
  match l, h with
  | [a, b], _ => exact ⟨a, b, rfl⟩
theorem text_shape {d : Dg} (g : okG d) :
    (d.y = 0 ∧ d.h = 0 ∧ d.s = 0 ∧ d.c = 0 ∧ 0 < d.n ∧ allW 10 (textG d) ∧ (valN 10 (textG d) : Int) = d.n ∧ 1 ≤ (textG d).length ∧ (textG d).length ≤ 8) ∨
    (d.n = 0 ∧ halfP d.h ∧ secP d.s ∧ ∃ a b c e r, textG d = a :: b :: c :: e :: 32 :: b8 d.h :: b8 d.s :: r ∧ allW 10 [a, b, c, e] ∧ (valN 10 [a, b, c, e] : Int) = d.y ∧ allW 10 r ∧ r.length ≤ 3 ∧ (valN 10 r : Int) = d.c) := by
  obtain ⟨n, y, h, s, c⟩ := d
  unfold okG okD at g
  simp only at g
  rcases g with ⟨g1, rfl, rfl, rfl, rfl, g2, g3⟩ | ⟨rfl, g1, g2, g3, g4, g5, g6⟩
  · left
    obtain ⟨m, rfl⟩ := Int.eq_ofNat_of_zero_le (show 0 ≤ n by omega)
    unfold textG
    rw [if_pos g2]
    have h1 := dd_val m
    have h2 := itoa_len m 7 (by omega)
    rw [← itoa_nat] at h1
    exact ⟨rfl, rfl, rfl, rfl, g2, h1.2, by rw [h1.1], h2.1, h2.2⟩
  · right
    obtain ⟨v, rfl⟩ := Int.eq_ofNat_of_zero_le (show 0 ≤ y by omega)
    obtain ⟨k, rfl⟩ := Int.eq_ofNat_of_zero_le g5
    have h1 := pad_val v 4
    have h2 := pad_size v 3 (by omega)
    have h3 : padL (v : Int) 4 = Lib.itoa (v : Int) := by
      unfold padL
      have : 4 ≤ (Lib.itoa (v : Int)).length := by
        rw [itoa_nat, Lib.decDigits_length]
        exact Nat.le_of_eq (Lib.nDigits_unique 3 v (by omega) (by omega)).symm
      rw [show 4 - (Lib.itoa (v : Int)).length = 0 by omega]
      rfl
    rw [h3] at h1 h2
    obtain ⟨a, b, e, f, ee⟩ := len4 h2
    rw [ee] at h1
    refine ⟨rfl, g3, g4, a, b, e, f, if 0 < (k : Int) then Lib.itoa (k : Int) else [], ?_, h1.2, by rw [h1.1], ?_⟩
    · unfold textG
      rw [if_neg (by simp), ee]
      rfl
    · by_cases hk : 0 < (k : Int)
      · rw [if_pos hk]
        have h4 := dd_val k
        have h5 := itoa_len k 2 (by omega)
        rw [← itoa_nat] at h4
        exact ⟨h4.2, h5.2, by rw [h4.1]⟩
      · rw [if_neg hk]
        refine ⟨allW_nil 10, by simp, ?_⟩
        simp only [valN, List.foldl_nil]
        omega
theorem pack_shape {d : Dg} (g : okG d) :
    (d.y = 0 ∧ d.h = 0 ∧ d.s = 0 ∧ d.c = 0 ∧ ∃ a b c e, packG d = [126, a, b, c, e] ∧ allW 62 [a, b, c, e] ∧ (valN 62 [a, b, c, e] : Int) + 620000 = d.n) ∨
    (d.y = 0 ∧ d.h = 0 ∧ d.s = 0 ∧ d.c = 0 ∧ ∃ x a b c e, packG d = [x, a, b, c, e] ∧ worthN x < 62 ∧ allW 10 [a, b, c, e] ∧ 10000 * (worthN x : Int) + (valN 10 [a, b, c, e] : Int) = d.n) ∨
    (d.n = 0 ∧ halfP d.h ∧ secP d.s ∧ ∃ x a b f e, packG d = [x, a, b, b8 d.h, f, e, b8 d.s] ∧ 73 ≤ x.toNat ∧ x.toNat ≤ 75 ∧ allW 10 [a, b] ∧ worthN f < 62 ∧ worthN e < 10 ∧ 100 * (18 + ((x.toNat : Int) - 73)) + (valN 10 [a, b] : Int) = d.y ∧ 10 * (worthN f : Int) + worthN e = d.c) := by
  obtain ⟨n, y, h, s, c⟩ := d
  unfold okG okD at g
  simp only at g
  rcases g with ⟨g1, rfl, rfl, rfl, rfl, g2, g3⟩ | ⟨rfl, g1, g2, g3, g4, g5, g6⟩
  · obtain ⟨m, rfl⟩ := Int.eq_ofNat_of_zero_le (show 0 ≤ n by omega)
    by_cases hl : 620000 ≤ (m : Int)
    · left
      have hm := lessL_is hl
      have hb := bigL_is (lessL m) (by omega)
      refine ⟨rfl, rfl, rfl, rfl, _, _, _, _, ?_, hb.1, ?_⟩
      · unfold packG
        rw [if_pos hl]
        rfl
      · rw [hb.2, hm]
        show (m : Int) - 620000 + 620000 = (m : Int)
        omega
    · right; left
      have h1 := pad_val (m % 10000) 4
      have h2 := pad_size (m % 10000) 3 (by omega)
      obtain ⟨a, b, e, f, ee⟩ := len4 h2
      rw [ee] at h1
      have h3 := worth_dig (m / 10000) (by omega)
      refine ⟨rfl, rfl, rfl, rfl, dig62 (m / 10000), a, b, e, f, ?_, by omega, h1.2, by rw [h1.1, h3]; show _ = (m : Int); omega⟩
      unfold packG
      rw [if_neg hl, if_pos g2]
      simp only [Int.toNat_natCast]
      rw [ee]
  · right; right
    obtain ⟨v, rfl⟩ := Int.eq_ofNat_of_zero_le (show 0 ≤ y by omega)
    obtain ⟨k, rfl⟩ := Int.eq_ofNat_of_zero_le g5
    have h1 := pad_val (v % 100) 2
    have h2 := pad_size (v % 100) 1 (by omega)
    obtain ⟨a, b, ee⟩ := len2 h2
    rw [ee] at h1
    have hx := b8_of (x := (v : Int) / 100 + 55) (by omega) (by omega)
    have hf := worth_dig (k / 10) (by omega)
    have he := worth_dig (k % 10) (by omega)
    refine ⟨rfl, g3, g4, b8 ((v : Int) / 100 + 55), a, b, dig62 (k / 10), dig62 (k % 10), ?_, by omega, by omega, h1.2, by omega, by omega, by rw [h1.1]; show _ = (v : Int); omega, by show _ = (k : Int); omega⟩
    unfold packG
    rw [if_neg (by simp), if_neg (by simp)]
    simp only [Int.toNat_natCast]
    rw [ee]
    rfl
/-- The number that decimal digits stand for, or -1: they are none, or too many. -/
def valR (l : List UInt8) : Int := if 1 ≤ l.length ∧ l.length ≤ 8 ∧ allW 10 l then (valN 10 l : Int) else -1
theorem valR_yes {l : List UInt8} (h1 : 1 ≤ l.length) (h2 : l.length ≤ 8) (h : allW 10 l) : valR l = valN 10 l := if_pos ⟨h1, h2, h⟩
theorem valR_no {l : List UInt8} (h : ¬ allW 10 l) : valR l = -1 := if_neg (fun g => h g.2.2)
theorem not_all {b : Nat} {l : List UInt8} {c : UInt8} (hc : c ∈ l) (h : ¬ worthN c < b) : ¬ allW b l := fun g => h (g c hc)
/-- The designation that a text is, if it is one. -/
def candT (l : List UInt8) : Dg := if 0 ≤ valR l then ⟨valR l, 0, 0, 0, 0⟩ else if l.length < 7 then zeroG else ⟨0, valR (l.take 4), ((l.getD 5 0).toNat : Int), ((l.getD 6 0).toNat : Int), if 7 < l.length then valR (l.drop 7) else 0⟩
theorem cand_text {d : Dg} (g : okG d) : candT (textG d) = d := by
  rcases text_shape g with ⟨h1, h2, h3, h4, h5, h6, h7, h8, h9⟩ | ⟨h1, h2, h3, a, b, c, e, r, h4, h5, h6, h7, h8, h9⟩
  · unfold candT
    rw [valR_yes h8 h9 h6, if_pos (by omega), h7]
    obtain ⟨n, y, h, s, c⟩ := d
    simp only at h1 h2 h3 h4
    rw [h1, h2, h3, h4]
  · unfold candT
    rw [h4, valR_no (not_all (c := 32) (by simp) (by decide)), if_neg (by omega), if_neg (by simp)]
    obtain ⟨n, y, h, s, k⟩ := d
    simp only at h1 h2 h3 h4 h6 h9
    have e1 := b8_of (half_bd h2).1 (half_bd h2).2
    have e2 := b8_of (sec_bd h3).1 (sec_bd h3).2
    have e3 : valR [a, b, c, e] = y := by rw [valR_yes (by simp) (by simp) h5, h6]
    simp only [List.take_succ_cons, List.take_zero, List.drop_succ_cons, List.drop_zero, List.getD_cons_succ, List.getD_cons_zero, List.length_cons, e1, e2, e3, h1]
    by_cases hr : r = []
    · subst hr
      simp only [valN, List.foldl_nil, List.length_nil] at h9 ⊢
      rw [if_neg (by omega), ← h9]
      rfl
    · have : r.length ≠ 0 := by simpa using hr
      rw [if_pos (by omega), valR_yes (by omega) (by omega) h7, h9]
def worthI (c : UInt8) : Int := if worthN c < 62 then (worthN c : Int) else -1
/-- The designation that a packed form is, if it is one. -/
def candU (l : List UInt8) : Dg :=
  match l with
  | [x, a, b, c, e] => if x = 126 then ⟨62 * (62 * (62 * worthI a + worthI b) + worthI c) + worthI e + 620000, 0, 0, 0, 0⟩ else ⟨10000 * worthI x + valR [a, b, c, e], 0, 0, 0, 0⟩
  | [x, a, b, h, f, e, s] => ⟨0, 1800 + 100 * (((x.toNat : Int) - 73) % 256) + valR [a, b], (h.toNat : Int), (s.toNat : Int), 10 * worthI f + worthI e⟩
  | _ => zeroG
theorem cand_pack {d : Dg} (g : okG d) : candU (packG d) = d := by
  rcases pack_shape g with ⟨h1, h2, h3, h4, a, b, c, e, h5, h6, h7⟩ | ⟨h1, h2, h3, h4, x, a, b, c, e, h5, h6, h7, h8⟩ | ⟨h1, h2, h3, x, a, b, f, e, h4, h5, h6, h7, h8, h9, h10, h11⟩
  · rw [h5]
    obtain ⟨n, y, h, s, k⟩ := d
    simp only at h1 h2 h3 h4 h7
    have w1 := allW_head h6
    have w2 := allW_head (allW_tail h6)
    have w3 := allW_head (allW_tail (allW_tail h6))
    have w4 := allW_head (allW_tail (allW_tail (allW_tail h6)))
    simp only [candU, if_pos, worthI, if_pos w1, if_pos w2, if_pos w3, if_pos w4, h1, h2, h3, h4]
    simp only [valN, List.foldl_cons, List.foldl_nil] at h7
    congr 1
    omega
  · rw [h5]
    obtain ⟨n, y, h, s, k⟩ := d
    simp only at h1 h2 h3 h4 h8
    have hx : x ≠ 126 := by rintro rfl; exact absurd h6 (by decide)
    simp only [candU, if_neg hx, worthI, if_pos h6, h1, h2, h3, h4]
    rw [valR_yes (by simp) (by simp) h7, h8]
  · rw [h4]
    obtain ⟨n, y, h, s, k⟩ := d
    simp only at h1 h2 h3 h10 h11
    have e1 := b8_of (half_bd h2).1 (half_bd h2).2
    have e2 := b8_of (sec_bd h3).1 (sec_bd h3).2
    simp only [candU, worthI, if_pos h8, if_pos (show worthN e < 62 by omega), h1, e1, e2]
    rw [valR_yes (by simp) (by simp) h7, h11]
    congr 1
    omega
/-- What Parse returns. -/
def ParseIs (l : List UInt8) (d : Dg) (k : Int) : Prop := (okG d ∧ textG d = l ∧ k = 0) ∨ ((∀ e, okG e → textG e ≠ l) ∧ d = zeroG ∧ k = 12)
/-- What Unpack returns. -/
def UnpackIs (l : List UInt8) (d : Dg) (k : Int) : Prop := (okG d ∧ packG d = l ∧ k = 0) ∨ ((∀ e, okG e → packG e ≠ l) ∧ d = zeroG ∧ k = 12)
theorem text_inj {d e : Dg} (g : okG d) (g' : okG e) (h : textG d = textG e) : d = e := by rw [← cand_text g, h, cand_text g']
theorem pack_inj {d e : Dg} (g : okG d) (g' : okG e) (h : packG d = packG e) : d = e := by rw [← cand_pack g, h, cand_pack g']
theorem ParseIs.uniq {l : List UInt8} {d e : Dg} {k j : Int} (a : ParseIs l d k) (b : ParseIs l e j) : d = e ∧ k = j := by
  rcases a with ⟨a1, a2, a3⟩ | ⟨a1, a2, a3⟩ <;> rcases b with ⟨b1, b2, b3⟩ | ⟨b1, b2, b3⟩
  · exact ⟨text_inj a1 b1 (a2.trans b2.symm), a3.trans b3.symm⟩
  · exact absurd a2 (b1 _ a1)
  · exact absurd b2 (a1 _ b1)
  · exact ⟨a2.trans b2.symm, a3.trans b3.symm⟩
theorem UnpackIs.uniq {l : List UInt8} {d e : Dg} {k j : Int} (a : UnpackIs l d k) (b : UnpackIs l e j) : d = e ∧ k = j := by
  rcases a with ⟨a1, a2, a3⟩ | ⟨a1, a2, a3⟩ <;> rcases b with ⟨b1, b2, b3⟩ | ⟨b1, b2, b3⟩
  · exact ⟨pack_inj a1 b1 (a2.trans b2.symm), a3.trans b3.symm⟩
  · exact absurd a2 (b1 _ a1)
  · exact absurd b2 (a1 _ b1)
  · exact ⟨a2.trans b2.symm, a3.trans b3.symm⟩
/-- A candidate: whatever has this text is it. -/
def CandT (l : List UInt8) (d : Dg) : Prop := ∀ e, okG e → textG e = l → e = d
def CandU (l : List UInt8) (d : Dg) : Prop := ∀ e, okG e → packG e = l → e = d
theorem ParseIs.yes {l : List UInt8} {d : Dg} (g : okG d) (h : textG d = l) : ParseIs l d 0 := Or.inl ⟨g, h, rfl⟩
theorem ParseIs.no {l : List UInt8} {d : Dg} (hc : CandT l d) (h : ¬ (okG d ∧ textG d = l)) : ParseIs l zeroG 12 := Or.inr ⟨fun e g t => by have := hc e g t; subst this; exact h ⟨g, t⟩, rfl, rfl⟩
theorem UnpackIs.yes {l : List UInt8} {d : Dg} (g : okG d) (h : packG d = l) : UnpackIs l d 0 := Or.inl ⟨g, h, rfl⟩
theorem UnpackIs.no {l : List UInt8} {d : Dg} (hc : CandU l d) (h : ¬ (okG d ∧ packG d = l)) : UnpackIs l zeroG 12 := Or.inr ⟨fun e g t => by have := hc e g t; subst this; exact h ⟨g, t⟩, rfl, rfl⟩
theorem candT_is (l : List UInt8) : CandT l (candT l) := fun e g t => by rw [← t, cand_text g]
theorem candU_is (l : List UInt8) : CandU l (candU l) := fun e g t => by rw [← t, cand_pack g]
/-- What whole returns: the number in the digits of a string. -/
structure WholeIs (b : Nat) (l : List UInt8) (n : Int) (ok : Bool) : Prop where
  lo : 0 ≤ n
  hi : n ≤ 1000000000
  yes : ok = true → allW b l ∧ l ≠ [] ∧ n = valN b l
  no : ok = false → n = 0 ∧ ¬ (allW b l ∧ l ≠ [] ∧ valN b l ≤ 15396335)
theorem WholeIs.known {b : Nat} {l : List UInt8} {n : Int} {ok : Bool} (g : WholeIs b l n ok) (h1 : allW b l) (h2 : l ≠ []) (h3 : valN b l ≤ 15396335) : n = valN b l ∧ ok = true := by
  cases ok with
  | true => exact ⟨(g.yes rfl).2.2, rfl⟩
  | false => exact absurd ⟨h1, h2, h3⟩ (g.no rfl).2
theorem WholeIs.empty {b : Nat} {n : Int} {ok : Bool} (g : WholeIs b [] n ok) : n = 0 := by
  cases ok with
  | true => exact absurd rfl (g.yes rfl).2.1
  | false => exact (g.no rfl).1
theorem prog_num {l : List UInt8} {n : Int} (w : WholeIs 10 l n true) : CandT l ⟨n, 0, 0, 0, 0⟩ := fun d g t => by
  have hy := w.yes rfl
  rcases text_shape g with ⟨h1, h2, h3, h4, h5, h6, h7, h8, h9⟩ | ⟨h1, h2, h3, a, b, c, e, r, h4, h5, h6, h7, h8, h9⟩
  · rw [t] at h7
    obtain ⟨n', y, h, s, c⟩ := d
    simp only at h1 h2 h3 h4 h7
    rw [h1, h2, h3, h4, hy.2.2, h7]
  · rw [t] at h4
    exact absurd hy.1 (not_all (c := 32) (by rw [h4]; simp) (by decide))
theorem prog_not {l : List UInt8} {n : Int} (w : WholeIs 10 l n false) {d : Dg} (g : okG d) (t : textG d = l) :
    d.n = 0 ∧ halfP d.h ∧ secP d.s ∧ ∃ a b c e r, l = a :: b :: c :: e :: 32 :: b8 d.h :: b8 d.s :: r ∧ allW 10 [a, b, c, e] ∧ (valN 10 [a, b, c, e] : Int) = d.y ∧ allW 10 r ∧ r.length ≤ 3 ∧ (valN 10 r : Int) = d.c := by
  have hb := okD_bd g
  rcases text_shape g with ⟨h1, h2, h3, h4, h5, h6, h7, h8, h9⟩ | h
  · rw [t] at h6 h7 h8
    exact absurd ⟨h6, by intro e; rw [e] at h8; simp at h8, by omega⟩ (w.no rfl).2
  · rw [t] at h
    exact h
theorem prog_none {l : List UInt8} {n : Int} (w : WholeIs 10 l n false) (h7 : l.length < 7) : CandT l zeroG := fun d g t => by
  obtain ⟨_, _, _, a, b, c, e, r, h4, _⟩ := prog_not w g t
  rw [h4] at h7
  simp only [List.length_cons] at h7
  omega
theorem prog_prov {l : List UInt8} {n y c : Int} {o1 o2 : Bool} (w : WholeIs 10 l n false) (w1 : WholeIs 10 (l.take 4) y o1) (w2 : WholeIs 10 (l.drop 7) c o2) :
    CandT l ⟨0, y, ((l.getD 5 0).toNat : Int), ((l.getD 6 0).toNat : Int), c⟩ := fun d g t => by
  obtain ⟨h1, h2, h3, a, b, c', e, r, h4, h5, h6, h7, h8, h9⟩ := prog_not w g t
  have e1 := b8_of (half_bd h2).1 (half_bd h2).2
  have e2 := b8_of (sec_bd h3).1 (sec_bd h3).2
  rw [h4] at w1 w2 ⊢
  simp only [List.take_succ_cons, List.take_zero, List.drop_succ_cons, List.drop_zero] at w1 w2
  have hbd : d.y ≤ 2099 ∧ d.c ≤ 619 := by unfold okG okD at g; omega
  have y1 := w1.known h5 (by simp) (by omega)
  have c1 : c = d.c := by
    by_cases hr : r = []
    · subst hr
      rw [w2.empty, ← h9]
      rfl
    · rw [(w2.known h7 hr (by omega)).1, h9]
  simp only [List.getD_cons_succ, List.getD_cons_zero]
  obtain ⟨n', y', h, s, k⟩ := d
  simp only at h1 h6 e1 e2 c1
  rw [e1, e2, c1, y1.1, h6, h1]
/-- The place of a byte in "IJK". -/
def idxC (x : Int) : Int := if x = 73 then 0 else if x = 74 then 1 else if x = 75 then 2 else -1
theorem unp_7 {l : List UInt8} {year tens ones : Int} {o1 o2 o3 : Bool} (h7 : l.length = 7) (w1 : WholeIs 10 [l.getD 1 0, l.getD 2 0] year o1) (w2 : WholeIs 62 [l.getD 4 0] tens o2) (w3 : WholeIs 10 [l.getD 5 0] ones o3) :
    CandU l ⟨0, 100 * (18 + idxC ((l.getD 0 0).toNat : Int)) + year, ((l.getD 3 0).toNat : Int), ((l.getD 6 0).toNat : Int), 10 * tens + ones⟩ := fun d g t => by
  rcases pack_shape g with ⟨h1, h2, h3, h4, a, b, c, e, h5, h6, _⟩ | ⟨h1, h2, h3, h4, x, a, b, c, e, h5, h6, _, h8⟩ | ⟨h1, h2, h3, x, a, b, f, e, h4, h5, h6, h7, h8, h9, h10, h11⟩
  · rw [← t, h5] at h7; simp at h7
  · rw [← t, h5] at h7; simp at h7
  · rw [t] at h4
    have e1 := b8_of (half_bd h2).1 (half_bd h2).2
    have e2 := b8_of (sec_bd h3).1 (sec_bd h3).2
    rw [h4] at w1 w2 w3 ⊢
    simp only [List.getD_cons_succ, List.getD_cons_zero] at w1 w2 w3 ⊢
    have hi : idxC (x.toNat : Int) = (x.toNat : Int) - 73 := by
      unfold idxC
      split
      · omega
      · split
        · omega
        · rw [if_pos (by omega)]; omega
    have hbd : d.y ≤ 2099 := by unfold okG okD at g; omega
    have v1 := w1.known h7 (by simp) (by omega)
    have s2 : allW 62 [f] := allW_cons h8 (allW_nil _)
    have s3 : allW 10 [e] := allW_cons h9 (allW_nil _)
    have t2 : valN 62 [f] = worthN f := by simp [valN]
    have t3 : valN 10 [e] = worthN e := by simp [valN]
    have v2 := w2.known s2 (by simp) (by omega)
    have v3 := w3.known s3 (by simp) (by omega)
    obtain ⟨n', y', h, s, k⟩ := d
    simp only at h1 h10 h11 e1 e2
    rw [e1, e2, hi, v1.1, v2.1, v3.1, t2, t3, h10, h11, h1]
theorem unp_tilde {l : List UInt8} {n : Int} (h5 : l.length = 5) (h0 : l.getD 0 0 = 126) (w : WholeIs 62 (l.drop 1) n true) : CandU l ⟨n + 620000, 0, 0, 0, 0⟩ := fun d g t => by
  have hy := w.yes rfl
  rcases pack_shape g with ⟨h1, h2, h3, h4, a, b, c, e, h5, h6, h7⟩ | ⟨h1, h2, h3, h4, x, a, b, c, e, h5, h6, h7, h8⟩ | ⟨h1, h2, h3, x, a, b, f, e, h4, _⟩
  · rw [t] at h5
    rw [h5] at hy
    obtain ⟨n', y', h, s, k⟩ := d
    simp only at h1 h2 h3 h4 h7
    simp only [List.drop_succ_cons, List.drop_zero] at hy
    rw [hy.2.2, h7, h1, h2, h3, h4]
  · rw [t] at h5
    rw [h5] at h0
    simp only [List.getD_cons_zero] at h0
    subst h0
    exact absurd h6 (by decide)
  · rw [← t, h4] at h5; simp at h5
theorem unp_low {l : List UInt8} {n high low : Int} {ok o1 o2 : Bool} (h5 : l.length = 5) (w : WholeIs 62 (l.drop 1) n ok) (h0 : ¬ (l.getD 0 0 = 126 ∧ ok = true)) (w1 : WholeIs 62 (l.take 1) high o1) (w2 : WholeIs 10 (l.drop 1) low o2) :
    CandU l ⟨10000 * high + low, 0, 0, 0, 0⟩ := fun d g t => by
  have hb := okD_bd g
  rcases pack_shape g with ⟨h1, h2, h3, h4, a, b, c, e, h5, h6, h7⟩ | ⟨h1, h2, h3, h4, x, a, b, c, e, h5, h6, h7, h8⟩ | ⟨h1, h2, h3, x, a, b, f, e, h4, _⟩
  · rw [t] at h5
    rw [h5] at w h0
    exact absurd ⟨rfl, (w.known h6 (by simp) (by simp only [List.drop_succ_cons, List.drop_zero]; omega)).2⟩ h0
  · rw [t] at h5
    rw [h5] at w1 w2
    simp only [List.drop_succ_cons, List.drop_zero, List.take_succ_cons, List.take_zero] at w1 w2
    have s1 : allW 62 [x] := allW_cons h6 (allW_nil _)
    have t1 : valN 62 [x] = worthN x := by simp [valN]
    have v1 := w1.known s1 (by simp) (by omega)
    have v2 := w2.known h7 (by simp) (by omega)
    obtain ⟨n', y', h, s, k⟩ := d
    simp only at h1 h2 h3 h4 h8
    rw [v1.1, v2.1, t1, h8, h1, h2, h3, h4]
  · rw [← t, h4] at h5; simp at h5
theorem unp_none {l : List UInt8} (h5 : l.length ≠ 5) (h7 : l.length ≠ 7) : CandU l zeroG := fun d g t => by
  rcases pack_shape g with ⟨h1, h2, h3, h4, a, b, c, e, h, _⟩ | ⟨h1, h2, h3, h4, x, a, b, c, e, h, _⟩ | ⟨h1, h2, h3, x, a, b, f, e, h, _⟩
  · rw [← t, h] at h5; simp at h5
  · rw [← t, h] at h5; simp at h5
  · rw [← t, h] at h7; simp at h7
theorem prog_small {l : List UInt8} {n : Int} (w : WholeIs 10 l n false) (h7 : ¬ 7 ≤ l.length) : CandT l zeroG := prog_none w (by omega)
end Dp
end Go.Proofs.YtafeigpmldgifaaDoor
/-
  Plain law of changes: their lines; no walk here.
-/
namespace Go.Proofs.YtafeigpmldgifaaDoor
namespace Cgp
open Go.RowKit Lw Go.Proofs.YtafeigpmldgifaaDoor.Dp

/-- A change. -/
structure Cg where
  k : Int
  a : Dg
  b : Dg
  n : Int
def okC (c : Cg) : Prop :=
  (c.k = 1 ∧ okG c.a ∧ c.a.n = 0 ∧ c.b = zeroG ∧ c.n = 0) ∨ (c.k = 2 ∧ okG c.a ∧ okG c.b ∧ c.a ≠ c.b ∧ c.n = 0) ∨
  (c.k = 3 ∧ okG c.a ∧ okG c.b ∧ 0 < c.b.n ∧ c.n = 0) ∨ (c.k = 4 ∧ c.a = zeroG ∧ c.b = zeroG ∧ 0 ≤ c.n ∧ c.n ≤ 9223372036854775807)
def addW : List UInt8 := [97, 100, 100]
def joinW : List UInt8 := [106, 111, 105, 110]
def numW : List UInt8 := [110, 117, 109, 98, 101, 114]
def undoW : List UInt8 := [117, 110, 100, 111]
def eqW : List UInt8 := [32, 61, 32]
/-- What stands behind the first blank. -/
def restC (c : Cg) : List UInt8 := if c.k = 1 then textG c.a else if c.k = 2 ∨ c.k = 3 then textG c.a ++ (eqW ++ textG c.b) else Lib.itoa c.n
def wordC (c : Cg) : List UInt8 := if c.k = 1 then addW else if c.k = 2 then joinW else if c.k = 3 then numW else undoW
/-- The line of a change, without its line feed. -/
def lineC (c : Cg) : List UInt8 := wordC c ++ 32 :: restC c
theorem okC_k {c : Cg} (h : okC c) : c.k = 1 ∨ c.k = 2 ∨ c.k = 3 ∨ c.k = 4 := by
  rcases h with h | h | h | h
  · exact Or.inl h.1
  · exact Or.inr (Or.inl h.1)
  · exact Or.inr (Or.inr (Or.inl h.1))
  · exact Or.inr (Or.inr (Or.inr h.1))
/-- Where a string is cut. -/
theorem index_byte (c : UInt8) : ∀ (p r : List UInt8), (∀ x ∈ p, x ≠ c) → Lib.index (p ++ c :: r) [c] = p.length
  | [], r, _ => by
    rw [List.nil_append, Lib.index, if_pos (by simp)]
    rfl
  | b :: p, r, h => by
    have ih := index_byte c p r (fun x hx => h x (List.mem_cons_of_mem _ hx))
    have hb := h b (List.mem_cons_self ..)
    rw [List.cons_append, Lib.index, if_neg (by simp; exact fun e => hb e.symm), ih]
    rw [if_neg (by simp)]
    simp
theorem index_eq : ∀ (p r : List UInt8), (∀ x ∈ p, x ≠ 61) → Lib.index (p ++ (eqW ++ r)) eqW = p.length
  | [], r, _ => by
    show Lib.index (32 :: ([61, 32] ++ r)) eqW = 0
    rw [Lib.index, if_pos (by simp [eqW])]
  | b :: p, r, h => by
    have ih := index_eq p r (fun x hx => h x (List.mem_cons_of_mem _ hx))
    have no : ¬ eqW.isPrefixOf (b :: (p ++ (eqW ++ r))) = true := by
      cases p with
      | nil => simp [eqW]
      | cons q p =>
        have hq := h q (by simp)
        simp [eqW]
        exact fun _ e => absurd e.symm hq
    rw [List.cons_append, Lib.index, if_neg no, ih]
    rw [if_neg (by simp)]
    simp
theorem cut_byte {c : UInt8} {p r : List UInt8} (h : ∀ x ∈ p, x ≠ c) : Lib.cut (p ++ c :: r) [c] = (p, r, true) := by
  unfold Lib.cut
  rw [index_byte c p r h, if_pos (by omega), Int.toNat_natCast, List.take_left]
  show (p, List.drop (p.length + 1) (p ++ c :: r), true) = _
  rw [List.drop_append]
  simp
theorem cut_eq {p r : List UInt8} (h : ∀ x ∈ p, x ≠ 61) : Lib.cut (p ++ (eqW ++ r)) eqW = (p, r, true) := by
  unfold Lib.cut
  rw [index_eq p r h, if_pos (by omega), Int.toNat_natCast, List.take_left]
  show (p, List.drop (p.length + 3) (p ++ (eqW ++ r)), true) = _
  rw [List.drop_append]
  simp [eqW]
theorem dig_ne {c : UInt8} (h : worthN c < 10) : c ≠ 61 ∧ c ≠ 10 := by
  constructor <;> (rintro rfl; revert h; decide)
theorem text_ne {d : Dg} (g : okG d) : ∀ c ∈ textG d, c ≠ 61 ∧ c ≠ 10 := by
  rcases text_shape g with ⟨_, _, _, _, _, h, _, _, _⟩ | ⟨_, h1, h2, a, b, c, e, r, h3, h4, _, h5, _, _⟩
  · exact fun c hc => dig_ne (h c hc)
  · intro x hx
    rw [h3] at hx
    have e1 := b8_of (half_bd h1).1 (half_bd h1).2
    have e2 := b8_of (sec_bd h2).1 (sec_bd h2).2
    unfold halfP at h1
    unfold secP at h2
    simp only [List.mem_cons] at hx
    rcases hx with rfl | rfl | rfl | rfl | rfl | rfl | rfl | hx
    · exact dig_ne (h4 _ (by simp))
    · exact dig_ne (h4 _ (by simp))
    · exact dig_ne (h4 _ (by simp))
    · exact dig_ne (h4 _ (by simp))
    · exact ⟨by decide, by decide⟩
    · constructor
      · intro e; rw [e] at e1; simp at e1; omega
      · intro e; rw [e] at e1; simp at e1; omega
    · constructor
      · intro e; rw [e] at e2; simp at e2; omega
      · intro e; rw [e] at e2; simp at e2; omega
    · exact dig_ne (h5 _ hx)
theorem word_ne (c : Cg) : ∀ x ∈ wordC c, x ≠ 32 ∧ x ≠ 10 := by
  unfold wordC
  split
  · decide
  · split
    · decide
    · split <;> decide
theorem cut_line (c : Cg) : Lib.cut (lineC c) [32] = (wordC c, restC c, true) := cut_byte (fun x hx => (word_ne c x hx).1)
theorem cut_rest {c : Cg} (h : okC c) (hk : c.k = 2 ∨ c.k = 3) : Lib.cut (restC c) eqW = (textG c.a, textG c.b, true) := by
  have ga : okG c.a := by
    rcases h with h | h | h | h
    · omega
    · exact h.2.1
    · exact h.2.1
    · omega
  have e : restC c = textG c.a ++ (eqW ++ textG c.b) := by
    unfold restC
    rw [if_neg (by omega), if_pos hk]
  rw [e]
  exact cut_eq (fun x hx => (text_ne ga x hx).1)
theorem word_inj {c d : Cg} (hc : okC c) (hd : okC d) (h : wordC c = wordC d) : c.k = d.k := by
  unfold wordC at h
  rcases okC_k hc with e | e | e | e <;> rcases okC_k hd with f | f | f | f <;> rw [e, f] at h ⊢ <;> first | rfl | (exfalso; revert h; decide)
theorem itoa_inj {m n : Int} (hm : 0 ≤ m) (hn : 0 ≤ n) (h : Lib.itoa m = Lib.itoa n) : m = n := by
  obtain ⟨a, rfl⟩ := Int.eq_ofNat_of_zero_le hm
  obtain ⟨b, rfl⟩ := Int.eq_ofNat_of_zero_le hn
  have h1 := (dd_val a).1
  have h2 := (dd_val b).1
  rw [← itoa_nat] at h1 h2
  rw [h, h2] at h1
  rw [h1]
theorem line_inj {c d : Cg} (hc : okC c) (hd : okC d) (h : lineC c = lineC d) : c = d := by
  have e := cut_line c
  rw [h, cut_line d] at e
  have ew : wordC d = wordC c := congrArg Prod.fst e
  have er : restC d = restC c := congrArg (fun x => x.2.1) e
  have ek := word_inj hd hc ew
  obtain ⟨k, a, b, n⟩ := c
  obtain ⟨k', a', b', n'⟩ := d
  simp only at ek
  subst ek
  rcases hc with ⟨h1, h2, h3, h4, h5⟩ | ⟨h1, h2, h3, h4, h5⟩ | ⟨h1, h2, h3, h4, h5⟩ | ⟨h1, h2, h3, h4, h5⟩ <;> rcases hd with ⟨g1, g2, g3, g4, g5⟩ | ⟨g1, g2, g3, g4, g5⟩ | ⟨g1, g2, g3, g4, g5⟩ | ⟨g1, g2, g3, g4, g5⟩ <;> simp only at h1 h2 h3 h4 h5 g1 g2 g3 g4 g5 <;> first | omega | skip
  · unfold restC at er
    simp only [h1, if_true] at er
    rw [text_inj g2 h2 er, h4, g4, h5, g5]
  · have c1 := cut_rest (c := ⟨k', a, b, n⟩) (Or.inr (Or.inl ⟨h1, h2, h3, h4, h5⟩)) (Or.inl h1)
    have c2 := cut_rest (c := ⟨k', a', b', n'⟩) (Or.inr (Or.inl ⟨g1, g2, g3, g4, g5⟩)) (Or.inl g1)
    rw [er, c1] at c2
    rw [text_inj h2 g2 (congrArg Prod.fst c2), text_inj h3 g3 (congrArg (fun x => x.2.1) c2), h5, g5]
  · have c1 := cut_rest (c := ⟨k', a, b, n⟩) (Or.inr (Or.inr (Or.inl ⟨h1, h2, h3, h4, h5⟩))) (Or.inr h1)
    have c2 := cut_rest (c := ⟨k', a', b', n'⟩) (Or.inr (Or.inr (Or.inl ⟨g1, g2, g3, g4, g5⟩))) (Or.inr g1)
    rw [er, c1] at c2
    rw [text_inj h2 g2 (congrArg Prod.fst c2), text_inj h3 g3 (congrArg (fun x => x.2.1) c2), h5, g5]
  · unfold restC at er
    rw [h1] at er
    simp at er
    rw [h2, h3, g2, g3, itoa_inj g4 h4 er]
/-- What the line of a change answers. -/
def zeroC : Cg := ⟨0, zeroG, zeroG, 0⟩
def WrIs (c : Cg) (s : List UInt8) (k : Int) : Prop := (okC c ∧ s = lineC c ++ [10] ∧ k = 0) ∨ (¬ okC c ∧ s = [] ∧ k = 8)
def RdIs (l : List UInt8) (c : Cg) (k : Int) : Prop := (okC c ∧ lineC c = l ∧ k = 0) ∨ ((∀ e, okC e → lineC e ≠ l) ∧ c = zeroC ∧ k = 12)
theorem WrIs.uniq {c : Cg} {s t : List UInt8} {k j : Int} (a : WrIs c s k) (b : WrIs c t j) : s = t ∧ k = j := by
  rcases a with ⟨a1, a2, a3⟩ | ⟨a1, a2, a3⟩ <;> rcases b with ⟨b1, b2, b3⟩ | ⟨b1, b2, b3⟩
  · exact ⟨a2.trans b2.symm, a3.trans b3.symm⟩
  · exact absurd a1 b1
  · exact absurd b1 a1
  · exact ⟨a2.trans b2.symm, a3.trans b3.symm⟩
theorem RdIs.uniq {l : List UInt8} {c d : Cg} {k j : Int} (a : RdIs l c k) (b : RdIs l d j) : c = d ∧ k = j := by
  rcases a with ⟨a1, a2, a3⟩ | ⟨a1, a2, a3⟩ <;> rcases b with ⟨b1, b2, b3⟩ | ⟨b1, b2, b3⟩
  · exact ⟨line_inj a1 b1 (a2.trans b2.symm), a3.trans b3.symm⟩
  · exact absurd a2 (b1 c a1)
  · exact absurd b2 (a1 d b1)
  · exact ⟨a2.trans b2.symm, a3.trans b3.symm⟩
end Cgp
end Go.Proofs.YtafeigpmldgifaaDoor
/-
  Plain law: what a line is read as is its change, if it is the line of one.
-/
namespace Go.Proofs.YtafeigpmldgifaaDoor
namespace Cgp
open Go.RowKit Lw Go.Proofs.YtafeigpmldgifaaDoor.Dp

theorem parse_of {d a : Dg} {k : Int} (g : okG d) (h : ParseIs (textG d) a k) : a = d := by
  rcases h with ⟨h1, h2, _⟩ | ⟨h1, _, _⟩
  · exact text_inj h1 g h2
  · exact absurd rfl (h1 d g)
theorem text_pos {d : Dg} (g : okG d) : textG d ≠ [] := by
  rcases text_shape g with ⟨_, _, _, _, _, _, _, h, _⟩ | ⟨_, _, _, a, b, c, e, r, h, _⟩
  · intro e; rw [e] at h; simp at h
  · rw [h]; simp
theorem parse_nil {a : Dg} {k : Int} (h : ParseIs [] a k) : a = zeroG := by
  rcases h with ⟨h1, h2, _⟩ | ⟨_, h2, _⟩
  · exact absurd h2 (text_pos h1)
  · exact h2
theorem wordC_1 {c : Cg} (h : c.k = 1) : wordC c = addW := by unfold wordC; rw [if_pos h]
theorem wordC_2 {c : Cg} (h : c.k = 2) : wordC c = joinW := by unfold wordC; rw [if_neg (by omega), if_pos h]
theorem wordC_3 {c : Cg} (h : c.k = 3) : wordC c = numW := by unfold wordC; rw [if_neg (by omega), if_neg (by omega), if_pos h]
theorem wordC_4 {c : Cg} (h : c.k = 4) : wordC c = undoW := by unfold wordC; rw [if_neg (by omega), if_neg (by omega), if_neg (by omega)]
/-- The kind that a word stands for. -/
def kindW (l : List UInt8) : Int := if l = addW then 1 else if l = joinW then 2 else if l = numW then 3 else if l = undoW then 4 else 0
theorem kind_word {c : Cg} (h : okC c) : kindW (wordC c) = c.k := by
  rcases okC_k h with e | e | e | e
  · rw [wordC_1 e, e]; decide
  · rw [wordC_2 e, e]; decide
  · rw [wordC_3 e, e]; decide
  · rw [wordC_4 e, e]; decide
/-- The candidate that a line is read as. -/
structure CandIs (l : List UInt8) (c : Cg) : Prop where
  k : c.k = kindW (Lib.cut l [32]).1
  a : ∃ j, ParseIs (if c.k = 1 then (Lib.cut l [32]).2.1 else if c.k = 4 then [] else (Lib.cut (Lib.cut l [32]).2.1 eqW).1) c.a j
  b : if c.k = 1 then c.b = zeroG else ∃ j, ParseIs (if c.k = 4 then [] else (Lib.cut (Lib.cut l [32]).2.1 eqW).2.1) c.b j
  n : if c.k = 4 then ∀ m : Nat, m ≤ 9223372036854775807 → (Lib.cut l [32]).2.1 = Lib.itoa (m : Int) → c.n = m else c.n = 0
theorem CandIs.eq {l : List UInt8} {c e : Cg} (h : CandIs l c) (g : okC e) (hl : lineC e = l) : c = e := by
  obtain ⟨hk, ⟨j, ha⟩, hb, hn⟩ := h
  subst hl
  rw [cut_line] at hk ha hb hn
  simp only at hk ha hb hn
  rw [kind_word g] at hk
  obtain ⟨k, a, b, n⟩ := c
  obtain ⟨k', a', b', n'⟩ := e
  simp only at hk ha hb hn
  subst hk
  rcases g with ⟨h1, h2, h3, h4, h5⟩ | ⟨h1, h2, h3, h4, h5⟩ | ⟨h1, h2, h3, h4, h5⟩ | ⟨h1, h2, h3, h4, h5⟩ <;> simp only at h1 h2 h3 h4 h5
  · rw [if_pos h1] at ha hb
    rw [if_neg (by omega)] at hn
    have e : restC ⟨k, a', b', n'⟩ = textG a' := by unfold restC; rw [if_pos h1]
    rw [e] at ha
    rw [parse_of h2 ha, hb, hn, h4, h5]
  · have cr := cut_rest (c := ⟨k, a', b', n'⟩) (Or.inr (Or.inl ⟨h1, h2, h3, h4, h5⟩)) (Or.inl h1)
    rw [cr] at ha hb
    rw [if_neg (by omega), if_neg (by omega)] at ha
    rw [if_neg (by omega), if_neg (by omega)] at hb
    rw [if_neg (by omega)] at hn
    obtain ⟨j2, hb⟩ := hb
    rw [parse_of h2 ha, parse_of h3 hb, hn, h5]
  · have cr := cut_rest (c := ⟨k, a', b', n'⟩) (Or.inr (Or.inr (Or.inl ⟨h1, h2, h3, h4, h5⟩))) (Or.inr h1)
    rw [cr] at ha hb
    rw [if_neg (by omega), if_neg (by omega)] at ha
    rw [if_neg (by omega), if_neg (by omega)] at hb
    rw [if_neg (by omega)] at hn
    obtain ⟨j2, hb⟩ := hb
    rw [parse_of h2 ha, parse_of h3 hb, hn, h5]
  · rw [if_neg (by omega), if_pos h1] at ha
    rw [if_neg (by omega), if_pos h1] at hb
    rw [if_pos h1] at hn
    obtain ⟨j2, hb⟩ := hb
    have e : restC ⟨k, a', b', n'⟩ = Lib.itoa n' := by unfold restC; rw [if_neg (show ¬ k = 1 by omega), if_neg (show ¬ (k = 2 ∨ k = 3) by omega)]
    obtain ⟨m, rfl⟩ := Int.eq_ofNat_of_zero_le h4
    rw [parse_nil ha, parse_nil hb, hn m (by omega) e, h2, h3]
/-- A candidate is what the line is read as, or the line is none. -/
theorem CandIs.yes {l : List UInt8} {c : Cg} (h : okC c) (e : lineC c ++ [10] = l ++ [10]) : RdIs l c 0 := Or.inl ⟨h, List.append_cancel_right e, rfl⟩
theorem CandIs.no {l : List UInt8} {c : Cg} (h : CandIs l c) (hn : ¬ (okC c ∧ lineC c ++ [10] = l ++ [10])) : RdIs l zeroC 12 := Or.inr ⟨fun e g hl => hn (by
  have := h.eq g hl
  subst this
  exact ⟨g, by rw [hl]⟩), rfl, rfl⟩
end Cgp
end Go.Proofs.YtafeigpmldgifaaDoor
/-
  The library contracts that this claim uses, laid at its program: cut out of what the shelf's own program writes.
-/
namespace Go.Proofs
open Go.Shelf
def Tryd.lays137_ren : Go.Shelf.Ren := ⟨fun | 137 => 80 | 217 => 59 | 266 => 75 | n => n, fun | 9 => 9 | 5 => 5 | 3 => 3 | n => n, fun | n => n⟩
theorem Tryd.lays137 : Go.Proofs.Lays.n137 Tryd.prog Tryd.lays137_ren := {
  mixed := by kernel_rfl
  f137 := Tryd.func80.trans (congrArg some (by kernel_rfl))
  f217 := Tryd.func59.trans (congrArg some (by kernel_rfl))
  f266 := Tryd.func75.trans (congrArg some (by kernel_rfl))
  t3 := Tryd.underlying3
  a3 := Tryd.isAgg3
  z3 := Tryd.sizeOf3
  v3 := Tryd.zeroValue3
  t5 := Tryd.underlying5
  a5 := Tryd.isAgg5
  z5 := Tryd.sizeOf5
  v5 := Tryd.zeroValue5
  t9 := Tryd.underlying9
  a9 := Tryd.isAgg9
  z9 := Tryd.sizeOf9
  v9 := Tryd.zeroValue9 }
open Go.RowKit in
/-- strings.IndexByte: "IndexByte returns the index of the first instance of c in s, or -1 if c is not present in s.": IT RETURNS 'Lib.indexByte s c'; the world is as it was. (LAID: no walk: one application.) -/
theorem Tryd.strings_IndexByte (s : ByteArray) (c : Int) (w : World) :
    Calls Tryd.prog 80 #[.string s, .int .u8 c] w fun e w' => e = .returned (.int .i64 (Lib.indexByte s.data.toList c.toNat.toUInt8)) ∧ w' = w := Any.strings_IndexByte Tryd.lays137 s c w
def Tryd.laysM171_ren : Go.Shelf.Ren := ⟨fun | 171 => 36 | 243 => 51 | 246 => 71 | 283 => 82 | 284 => 83 | 285 => 84 | 286 => 85 | 129 => 90 | 317 => 89 | 318 => 91 | 319 => 92 | 320 => 93 | 337 => 94 | 338 => 95 | n => n, fun | 3 => 3 | 9 => 9 | 2 => 2 | 4 => 4 | 171 => 131 | 0 => 0 | 53 => 100 | 37 => 58 | 5 => 5 | 173 => 134 | 212 => 142 | 51 => 85 | 20 => 20 | 213 => 143 | 46 => 46 | 232 => 22 | 233 => 101 | n => n, fun | 17 => 6 | 18 => 7 | 19 => 8 | n => n⟩
theorem Tryd.laysM171 : Go.Proofs.LaysM.n171 Tryd.prog Tryd.laysM171_ren := {
  mixed := by kernel_rfl
  f129 := Tryd.func90.trans (congrArg some (by kernel_rfl))
  f171 := Tryd.func36.trans (congrArg some (by kernel_rfl))
  f243 := Tryd.func51.trans (congrArg some (by kernel_rfl))
  f246 := Tryd.func71.trans (congrArg some (by kernel_rfl))
  f283 := Tryd.func82.trans (congrArg some (by kernel_rfl))
  f284 := Tryd.func83.trans (congrArg some (by kernel_rfl))
  f285 := Tryd.func84.trans (congrArg some (by kernel_rfl))
  f286 := Tryd.func85.trans (congrArg some (by kernel_rfl))
  f317 := Tryd.func89.trans (congrArg some (by kernel_rfl))
  f318 := Tryd.func91.trans (congrArg some (by kernel_rfl))
  f319 := Tryd.func92.trans (congrArg some (by kernel_rfl))
  f320 := Tryd.func93.trans (congrArg some (by kernel_rfl))
  f337 := Tryd.func94.trans (congrArg some (by kernel_rfl))
  f338 := Tryd.func95.trans (congrArg some (by kernel_rfl))
  t0 := Tryd.underlying0
  a0 := Tryd.isAgg0
  z0 := Tryd.sizeOf0
  v0 := Tryd.zeroValue0
  t2 := Tryd.underlying2
  a2 := Tryd.isAgg2
  z2 := Tryd.sizeOf2
  v2 := Tryd.zeroValue2
  t3 := Tryd.underlying3
  a3 := Tryd.isAgg3
  z3 := Tryd.sizeOf3
  v3 := Tryd.zeroValue3
  t4 := Tryd.underlying4
  a4 := Tryd.isAgg4
  z4 := Tryd.sizeOf4
  v4 := Tryd.zeroValue4
  t5 := Tryd.underlying5
  a5 := Tryd.isAgg5
  z5 := Tryd.sizeOf5
  v5 := Tryd.zeroValue5
  t9 := Tryd.underlying9
  a9 := Tryd.isAgg9
  z9 := Tryd.sizeOf9
  v9 := Tryd.zeroValue9
  t20 := Tryd.underlying20
  a20 := Tryd.isAgg20
  z20 := Tryd.sizeOf20
  v20 := Tryd.zeroValue20
  t37 := Tryd.underlying58
  a37 := Tryd.isAgg58
  z37 := Tryd.sizeOf58
  v37 := Tryd.zeroValue58
  t46 := Tryd.underlying46
  a46 := Tryd.isAgg46
  z46 := Tryd.sizeOf46
  v46 := Tryd.zeroValue46
  t51 := Tryd.underlying85
  a51 := Tryd.isAgg85
  z51 := Tryd.sizeOf85
  v51 := Tryd.zeroValue85
  t53 := Tryd.underlying100
  a53 := Tryd.isAgg100
  z53 := Tryd.sizeOf100
  v53 := Tryd.zeroValue100
  t171 := Tryd.underlying131
  a171 := Tryd.isAgg131
  z171 := Tryd.sizeOf131
  v171 := Tryd.zeroValue131
  t173 := Tryd.underlying134
  a173 := Tryd.isAgg134
  z173 := Tryd.sizeOf134
  v173 := Tryd.zeroValue134
  t212 := Tryd.underlying142
  a212 := Tryd.isAgg142
  z212 := Tryd.sizeOf142
  v212 := Tryd.zeroValue142
  t213 := Tryd.underlying143
  a213 := Tryd.isAgg143
  z213 := Tryd.sizeOf143
  t232 := Tryd.underlying22
  a232 := Tryd.isAgg22
  z232 := Tryd.sizeOf22
  v232 := Tryd.zeroValue22
  t233 := Tryd.underlying101
  a233 := Tryd.isAgg101
  z233 := Tryd.sizeOf101
  v233 := Tryd.zeroValue101
  g17 := by kernel_rfl
  g18 := by kernel_rfl
  g19 := by kernel_rfl
  i0 := by kernel_rfl
  i2 := by kernel_rfl
  i3 := by kernel_rfl
  i4 := by kernel_rfl
  i5 := by kernel_rfl
  i9 := by kernel_rfl
  i20 := by kernel_rfl
  i37 := by kernel_rfl
  i46 := by kernel_rfl
  i51 := by kernel_rfl
  i53 := by kernel_rfl
  i171 := by kernel_rfl
  i173 := by kernel_rfl
  i212 := by kernel_rfl
  i232 := by kernel_rfl
  i233 := by kernel_rfl
  m17 := by kernel_rfl
  m18 := by kernel_rfl
  m19 := by kernel_rfl }
open Go.RowKit Go.Sort Go.Lib in
/-- strconv.Itoa: "Itoa is equivalent to FormatInt(int64(i), 10).": i's DECIMAL NUMERAL ('Lib.itoa': a '-' where i is negative, then the digits), FOR EVERY int. The world behind the call: the world before it, new blocks behind the heap (the library's 'var a [24]byte'), draws. (LAID: no walk: one application.) -/
theorem Tryd.strconv_Itoa (n : Int) (h0 : -9223372036854775808 ≤ n) (h1 : n ≤ 9223372036854775807) (w : World) (htab : Lib.TabIs Tryd.prog w "internal/strconv.uint64pow10" .u64 Lib.pow10Tab) :
    Calls Tryd.prog 36 #[.int .i64 n] w fun e w' => e = .returned (.string ⟨(Lib.itoa n).toArray⟩) ∧ ∃ k os, w' = grow (w.drewN k) os := Any.strconv_Itoa Tryd.laysM171 n h0 h1 w htab
def Tryd.lays219_ren : Go.Shelf.Ren := ⟨fun | 219 => 45 | 217 => 59 | 225 => 60 | 224 => 61 | 267 => 62 | 266 => 75 | 314 => 76 | n => n, fun | 9 => 9 | 3 => 3 | 4 => 4 | 5 => 5 | 46 => 46 | 146 => 121 | 51 => 85 | n => n, fun | 1 => 2 | n => n⟩
theorem Tryd.lays219 : Go.Proofs.Lays.n219 Tryd.prog Tryd.lays219_ren := {
  mixed := by kernel_rfl
  f217 := Tryd.func59.trans (congrArg some (by kernel_rfl))
  f219 := Tryd.func45.trans (congrArg some (by kernel_rfl))
  f224 := Tryd.func61.trans (congrArg some (by kernel_rfl))
  f225 := Tryd.func60.trans (congrArg some (by kernel_rfl))
  f266 := Tryd.func75.trans (congrArg some (by kernel_rfl))
  f267 := Tryd.func62.trans (congrArg some (by kernel_rfl))
  f314 := Tryd.func76.trans (congrArg some (by kernel_rfl))
  t3 := Tryd.underlying3
  a3 := Tryd.isAgg3
  z3 := Tryd.sizeOf3
  v3 := Tryd.zeroValue3
  t4 := Tryd.underlying4
  a4 := Tryd.isAgg4
  z4 := Tryd.sizeOf4
  v4 := Tryd.zeroValue4
  t5 := Tryd.underlying5
  a5 := Tryd.isAgg5
  z5 := Tryd.sizeOf5
  v5 := Tryd.zeroValue5
  t9 := Tryd.underlying9
  a9 := Tryd.isAgg9
  z9 := Tryd.sizeOf9
  v9 := Tryd.zeroValue9
  t46 := Tryd.underlying46
  a46 := Tryd.isAgg46
  z46 := Tryd.sizeOf46
  v46 := Tryd.zeroValue46
  t51 := Tryd.underlying85
  a51 := Tryd.isAgg85
  z51 := Tryd.sizeOf85
  v51 := Tryd.zeroValue85
  t146 := Tryd.underlying121
  a146 := Tryd.isAgg121
  z146 := Tryd.sizeOf121
  v146 := Tryd.zeroValue121
  g1 := by kernel_rfl }
open Go.RowKit Go.Lib in
/-- internal/stringslite.Index (what strings.Index calls) AT A substr OF ONE BYTE c: IT RETURNS 'Lib.indexByte s c'; the world is as it was. (LAID: no walk: one application.) -/
theorem Tryd.stringslite_Index_one (s : ByteArray) (c : UInt8) (w : World) :
    Calls Tryd.prog 45 #[.string s, .string ⟨#[c]⟩] w fun e w' => e = .returned (.int .i64 (Lib.indexByte s.data.toList c)) ∧ w' = w := Any.stringslite_Index_one Tryd.lays219 s c w
open Go.RowKit Go.Lib in
def Tryd.lays145_ren : Go.Shelf.Ren := ⟨fun | 145 => 17 | 220 => 27 | 219 => 45 | 217 => 59 | 225 => 60 | 224 => 61 | 267 => 62 | 266 => 75 | 314 => 76 | n => n, fun | 9 => 9 | 4 => 4 | 59 => 47 | 3 => 3 | 5 => 5 | 46 => 46 | 146 => 121 | 51 => 85 | n => n, fun | 1 => 2 | n => n⟩
theorem Tryd.lays145 : Go.Proofs.Lays.n145 Tryd.prog Tryd.lays145_ren := {
  mixed := by kernel_rfl
  f145 := Tryd.func17.trans (congrArg some (by kernel_rfl))
  f217 := Tryd.func59.trans (congrArg some (by kernel_rfl))
  f219 := Tryd.func45.trans (congrArg some (by kernel_rfl))
  f220 := Tryd.func27.trans (congrArg some (by kernel_rfl))
  f224 := Tryd.func61.trans (congrArg some (by kernel_rfl))
  f225 := Tryd.func60.trans (congrArg some (by kernel_rfl))
  f266 := Tryd.func75.trans (congrArg some (by kernel_rfl))
  f267 := Tryd.func62.trans (congrArg some (by kernel_rfl))
  f314 := Tryd.func76.trans (congrArg some (by kernel_rfl))
  t3 := Tryd.underlying3
  a3 := Tryd.isAgg3
  z3 := Tryd.sizeOf3
  v3 := Tryd.zeroValue3
  t4 := Tryd.underlying4
  a4 := Tryd.isAgg4
  z4 := Tryd.sizeOf4
  v4 := Tryd.zeroValue4
  t5 := Tryd.underlying5
  a5 := Tryd.isAgg5
  z5 := Tryd.sizeOf5
  v5 := Tryd.zeroValue5
  t9 := Tryd.underlying9
  a9 := Tryd.isAgg9
  z9 := Tryd.sizeOf9
  v9 := Tryd.zeroValue9
  t46 := Tryd.underlying46
  a46 := Tryd.isAgg46
  z46 := Tryd.sizeOf46
  v46 := Tryd.zeroValue46
  t51 := Tryd.underlying85
  a51 := Tryd.isAgg85
  z51 := Tryd.sizeOf85
  v51 := Tryd.zeroValue85
  t59 := Tryd.underlying47
  a59 := Tryd.isAgg47
  z59 := Tryd.sizeOf47
  v59 := Tryd.zeroValue47
  t146 := Tryd.underlying121
  a146 := Tryd.isAgg121
  z146 := Tryd.sizeOf121
  v146 := Tryd.zeroValue121
  g1 := by kernel_rfl }
open Go.RowKit Go.Lib in
/-- strings.Cut: "Cut slices s around the first instance of sep, returning the text before and after sep. The found result reports whether sep appears in s. If sep does not appear in s, cut returns s, "", false.": IT RETURNS 'Lib.cut s sep'; the world is as it was but for the count of draws. (LAID: no walk: one application.) -/
theorem Tryd.strings_Cut (s sep : ByteArray) (m : Int) (w : World) (hs : s.size < 4294967281) (hm : w.cell? ⟨2, 0, none⟩ = some (.int .i64 m)) :
    Calls Tryd.prog 17 #[.string s, .string sep] w fun e w' => e = .returned (.tuple #[.string ⟨(Lib.cut s.data.toList sep.data.toList).1.toArray⟩, .string ⟨(Lib.cut s.data.toList sep.data.toList).2.1.toArray⟩, .bool (Lib.cut s.data.toList sep.data.toList).2.2]) ∧ ∃ n, w' = w.drewN n := Any.strings_Cut Tryd.lays145 s sep m w hs hm
end Go.Proofs
/-
  Library contracts of runes and of a builder's bytes, laid at this program.
-/
namespace Go.Proofs
open Go.Shelf
def Tryd.lays119_ren : Go.Shelf.Ren := ⟨fun | 119 => 81 | n => n, fun | 21 => 21 | 4 => 4 | n => n, fun | n => n⟩
theorem Tryd.lays119 : Go.Proofs.Lays.n119 Tryd.prog Tryd.lays119_ren := {
  mixed := by kernel_rfl
  f119 := Tryd.func81.trans (congrArg some (by kernel_rfl))
  t4 := Tryd.underlying4
  a4 := Tryd.isAgg4
  z4 := Tryd.sizeOf4
  v4 := Tryd.zeroValue4
  t21 := Tryd.underlying21
  a21 := Tryd.isAgg21
  z21 := Tryd.sizeOf21
  v21 := Tryd.zeroValue21 }
/-- utf8.ValidRune: "ValidRune reports whether r can be legally encoded as UTF-8. Code points that are out of range or a surrogate half are illegal.": IT RETURNS 'Lib.validRune r'; the world is as it was. (LAID: no walk: one application.) -/
theorem Tryd.utf8_ValidRune (r : Int) (w : World) :
    Calls Tryd.prog 81 #[.int .i32 r] w fun e w' => e = .returned (.bool (Lib.validRune r)) ∧ w' = w := Any.utf8_ValidRune Tryd.lays119 r w
def Tryd.lays152_ren : Go.Shelf.Ren := ⟨fun | 152 => 68 | 137 => 80 | 119 => 81 | 224 => 61 | 225 => 60 | 217 => 59 | 266 => 75 | n => n, fun | 9 => 9 | 21 => 21 | 3 => 3 | 4 => 4 | 5 => 5 | 0 => 0 | 46 => 46 | n => n, fun | n => n⟩
theorem Tryd.lays152 : Go.Proofs.Lays.n152 Tryd.prog Tryd.lays152_ren := {
  mixed := by kernel_rfl
  f119 := Tryd.func81.trans (congrArg some (by kernel_rfl))
  f137 := Tryd.func80.trans (congrArg some (by kernel_rfl))
  f152 := Tryd.func68.trans (congrArg some (by kernel_rfl))
  f217 := Tryd.func59.trans (congrArg some (by kernel_rfl))
  f224 := Tryd.func61.trans (congrArg some (by kernel_rfl))
  f225 := Tryd.func60.trans (congrArg some (by kernel_rfl))
  f266 := Tryd.func75.trans (congrArg some (by kernel_rfl))
  t0 := Tryd.underlying0
  a0 := Tryd.isAgg0
  z0 := Tryd.sizeOf0
  v0 := Tryd.zeroValue0
  t3 := Tryd.underlying3
  a3 := Tryd.isAgg3
  z3 := Tryd.sizeOf3
  v3 := Tryd.zeroValue3
  t4 := Tryd.underlying4
  a4 := Tryd.isAgg4
  z4 := Tryd.sizeOf4
  v4 := Tryd.zeroValue4
  t5 := Tryd.underlying5
  a5 := Tryd.isAgg5
  z5 := Tryd.sizeOf5
  v5 := Tryd.zeroValue5
  t9 := Tryd.underlying9
  a9 := Tryd.isAgg9
  z9 := Tryd.sizeOf9
  v9 := Tryd.zeroValue9
  t21 := Tryd.underlying21
  a21 := Tryd.isAgg21
  z21 := Tryd.sizeOf21
  v21 := Tryd.zeroValue21
  t46 := Tryd.underlying46
  a46 := Tryd.isAgg46
  z46 := Tryd.sizeOf46
  v46 := Tryd.zeroValue46 }
open Go.RowKit Go.Lib in
theorem Tryd.strings_IndexRune_ascii (s : ByteArray) (r : Int) (w : World) (h0 : 0 ≤ r) (h1 : r < 128) :
    Calls Tryd.prog 68 #[.string s, .int .i32 r] w fun e w' => e = .returned (.int .i64 (Lib.indexByte s.data.toList r.toNat.toUInt8)) ∧ w' = w := Any.strings_IndexRune_ascii Tryd.lays152 s r w h0 h1
end Go.Proofs
/-
  strings.IndexRune at a rune that is no ASCII, in a string of ASCII: it is not there.
-/
namespace Go.Proofs.YtafeigpmldgifaaDoor
namespace Dw
open Go.RowKit Dp Lw

theorem idx_none (l : List UInt8) (c : UInt8) (h : ∀ b ∈ l, b ≠ c) : Lib.indexByte l c = -1 := by
  induction l with
  | nil => rfl
  | cons a l ih =>
    have h1 : (a == c) = false := by simpa using h a (List.mem_cons_self ..)
    rw [Lib.indexByte, h1, ih (fun b hb => h b (List.mem_cons_of_mem _ hb))]
    rfl
theorem idx_ascii (s : ByteArray) (a e : Nat) (c : UInt8) (hs : ∀ b ∈ s.data.toList, b.toNat < 128) (hc : 128 ≤ c.toNat) : Lib.indexByte (s.extract a e).data.toList c = -1 :=
  idx_none _ _ fun b hb hbc => by have := hs b (mem_extract hb); rw [hbc] at this; omega
theorem get_mem (s : ByteArray) (k : Nat) (h : k < s.size) : s[k] ∈ s.data.toList := Array.getElem_mem_toList (xs := s.data) h
theorem below_iter (w : World) (s : ByteArray) (k : Nat) : Below w.heap.size w (w.iter s k) := (Below.refl _ _).alloc (Nat.le_refl _) _
set_option maxRecDepth 100000 in
set_option maxHeartbeats 1000000 in
theorem idx_fffd (D : ByteArray) (w : World) (hD : ∀ b ∈ D.data.toList, b.toNat < 128) (_hs : D.size ≤ 62) :
    Calls Tryd.prog 68 #[.string D, .int .i32 65533] w fun e w' => e = .returned (.int .i64 (-1)) ∧ Below w.heap.size w w' := by
  go_enter Tryd.func68, Tryd.ntmps68
  go_wp2
  go_loopw [] (fun w' => ∃ k : Nat, k ≤ D.size ∧ w' = w.iter D k) (fun w' => D.size - w'.iterPos w.heap.size)
  case atStart => exact ⟨0, Nat.zero_le _, rfl⟩
  case round =>
    obtain ⟨k, hk, rfl⟩ := hrel
    by_cases hlt : k < D.size
    · have hnx : ∀ ty, (Instr.next (.pointer (some ⟨w.heap.size, 0, none⟩)) true ty).run Tryd.prog (w.iter D k) = _ := fun ty => run_next_any w D k ty hlt
      have ha := hD _ (get_mem D k hlt)
      rw [decode_ascii D k hlt ha] at hnx
      have e1 : ((D[k].toNat : Int) == 65533) = false := by rw [beq_eq_false_iff_ne]; omega
      go_wp2
      go_roundw
      case rel => exact ⟨k + 1, by omega, rfl⟩
      case measure => simp; omega
    · have hnx : ∀ ty, (Instr.next (.pointer (some ⟨w.heap.size, 0, none⟩)) true ty).run Tryd.prog (w.iter D k) = _ := fun ty => run_next_end w D k ty hlt
      go_wp2
      go_ret
      exact ⟨rfl, below_iter _ _ _⟩
end Dw
end Go.Proofs.YtafeigpmldgifaaDoor
/-
  strings.IndexRune at a rune that is no ASCII, in a string of ASCII: it is not there.
-/
namespace Go.Proofs.YtafeigpmldgifaaDoor
namespace Dw
open Go.RowKit Dp Lw
set_option maxRecDepth 100000 in
set_option maxHeartbeats 2000000 in
theorem idx_high (D : ByteArray) (r : Int) (w : World) (hD : ∀ b ∈ D.data.toList, b.toNat < 128) (hs : D.size ≤ 62) (hs1 : 4 ≤ D.size) (h0 : 128 ≤ r) (h1 : r ≤ 2147483647) (hn : r ≠ 65533) :
    Calls Tryd.prog 68 #[.string D, .int .i32 r] w fun e w' => e = .returned (.int .i64 (-1)) ∧ Below w.heap.size w w' := by
  have e1 : (r == 65533) = false := beq_eq_false_iff_ne.2 hn
  have e0 : decide (r < 128) = false := by rw [decide_eq_false_iff_not]; omega
  have V := Lib.hid (Tryd.utf8_ValidRune r w)
  have ve : Lib.validRune r = Utf8.valid r := by
    rw [validRune_eq r]; rfl
  rw [ve] at V
  cases hv : Utf8.valid r with
  | false =>
    rw [hv] at V
    clear ve
    go_enter Tryd.func68, Tryd.ntmps68
    go_wp2_with fail
    go_at_call 81
    refine V.out.mono ?_
    rintro e w' ⟨rfl, rfl⟩
    go_wp2_with fail
    go_ret
    exact ⟨rfl, Below.refl _ _⟩
  | true =>
    obtain ⟨z1, z2, z3⟩ := encode_facts r hv h0
    rw [hv] at V
    clear ve
    obtain ⟨E, hE⟩ : ∃ E, Utf8.encode r = E := ⟨_, rfl⟩
    rw [hE] at z1 z2 z3
    obtain ⟨k, hk⟩ : ∃ k, E.size = k + 1 := ⟨E.size - 1, by omega⟩
    have kE : k < E.size := by omega
    have z4 : 128 ≤ (E[k]'kE).toNat := by
      have := z3 (by omega)
      simpa [hk] using this
    clear z3
    have kD : k < D.size := by omega
    have kD' : (k : Int) < (D.size : Int) := by omega
    have bD := hD _ (get_mem D k kD)
    have ne : ((D[k].toNat : Int) != ((E[k]'kE).toNat : Int)) = true := by rw [bne_iff_ne]; omega
    have IX := Lib.hid (idx_ascii D (k + 1) D.size (E[k]'kE) hD z4)
    have IXC := Lib.hid (show ∀ (n m : Nat), Calls Tryd.prog 80 #[.string (D.extract (k + 1) D.size), .int .u8 ((E[k]'kE).toNat : Int)] (w.drewN (n + m)) fun e w' => e = .returned (.int .i64 (-1)) ∧ ∃ j, w' = w.drewN (n + j) from
      fun n m => (Tryd.strings_IndexByte _ _ _).mono fun e w' ⟨he, hw⟩ => ⟨by
        rw [he, show ((E[k]'kE).toNat : Int).toNat.toUInt8 = E[k]'kE by simp, IX.out], m, hw⟩)
    have kE' : (k : Int) < (E.size : Int) := by omega
    have hk1 : (E.size : Int) - 1 = k := by omega
    have HK := Lib.hid hk
    clear hD IX hk
    go_enter Tryd.func68, Tryd.ntmps68
    go_wp2_with fail
    go_at_call 81
    refine V.out.mono ?_
    rintro e w' ⟨rfl, rfl⟩
    go_wp2_with fail
    go_step3
    go_wp2_with fail
    go_loop [9] (fun i => i = .int .i64 k) (fun _ => 0)
    case atStart => go_num
    case round =>
      subst hrel
      go_wp2_with fail
      go_step3
      go_wp2_with fail
      go_quiet (fail)
      go_wp2_with fail
      go_quiet ((go_at_call 80; exact IXC.out _ _))
      go_wp2_with fail
      rw [Exit.noGoto_ret]
      unfold Exit.inBlock
      dsimp only
      show Exit.noGoto _ Exit.ret _ _
      rw [Exit.noGoto_ret]
      unfold Exit.inBlock
      dsimp only
      show Exit.noGoto _ Exit.ret _ _
      rw [Exit.noGoto_ret]
      (show Exit.noGoto _ Exit.ret _ _)
      rw [Exit.noGoto_ret]
      go_ret
      exact ⟨rfl, drewN_below2 (Below.refl _ _) _⟩
def digS (b : Nat) : ByteArray := ⟨((List.range b).map dig62).toArray⟩
/-- The place of a rune among the first digits, or -1. -/
def idxR (b : Nat) (r : Int) : Int := if r < 128 ∧ worthN (UInt8.ofNat r.toNat) < b then (worthN (UInt8.ofNat r.toNat) : Int) else -1
theorem idx_10 : ∀ r : Nat, r < 128 → Lib.indexByte (digS 10).data.toList r.toUInt8 = idxR 10 r := by decide +kernel
theorem idx_62 : ∀ r : Nat, r < 128 → Lib.indexByte (digS 62).data.toList r.toUInt8 = idxR 62 r := by decide +kernel
theorem digS_ascii : ∀ b, b = 10 ∨ b = 62 → (∀ x ∈ (digS b).data.toList, x.toNat < 128) ∧ (digS b).size = b := by
  rintro b (rfl | rfl)
  · exact ⟨by decide +kernel, rfl⟩
  · exact ⟨by decide +kernel, rfl⟩
theorem idxr_any (b : Nat) (r : Int) (w : World) (hb : b = 10 ∨ b = 62) (h0 : 0 ≤ r) (h1 : r ≤ 2147483647) :
    Calls Tryd.prog 68 #[.string (digS b), .int .i32 r] w fun e w' => e = .returned (.int .i64 (idxR b r)) ∧ Below w.heap.size w w' ∧ (r < 128 → w' = w) := by
  by_cases hr : r < 128
  · obtain ⟨k, rfl⟩ := Int.eq_ofNat_of_zero_le h0
    refine (Tryd.strings_IndexRune_ascii (digS b) k w h0 hr).mono fun e w' ⟨he, hw⟩ => ⟨?_, by rw [hw]; exact Below.refl _ _, fun _ => hw⟩
    rw [he, Int.toNat_natCast]
    rcases hb with rfl | rfl
    · rw [idx_10 k (by omega)]
    · rw [idx_62 k (by omega)]
  · have e : idxR b r = -1 := if_neg (fun g => hr g.1)
    obtain ⟨hD, hs⟩ := digS_ascii b hb
    rw [e]
    by_cases hn : r = 65533
    · subst hn
      exact (idx_fffd (digS b) w hD (by omega)).mono fun e w' ⟨he, hw⟩ => ⟨he, hw, fun g => absurd g hr⟩
    · exact (idx_high (digS b) r w hD (by omega) (by omega) (by omega) h1 hn).mono fun e w' ⟨he, hw⟩ => ⟨he, hw, fun g => absurd g hr⟩
end Dw
end Go.Proofs.YtafeigpmldgifaaDoor
/-
  The walk of whole of package desig: the number in the digits of a string.
-/
namespace Go.Proofs.YtafeigpmldgifaaDoor
namespace Dw
open Go.RowKit Dp Lw

theorem take_snoc (s : ByteArray) (k : Nat) (h : k < s.size) : s.data.toList.take (k + 1) = s.data.toList.take k ++ [s[k]] := by
  rw [List.take_succ_eq_append_getElem (by simpa using h)]; rfl
theorem take_all (s : ByteArray) (k : Nat) (h : ¬ k < s.size) : s.data.toList.take k = s.data.toList := List.take_of_length_le (by simp; omega)
theorem valN_app (b : Nat) (hb : 1 ≤ b) (l m : List UInt8) : valN b l ≤ valN b (l ++ m) := by
  induction m generalizing l with
  | nil => simp
  | cons c m ih =>
    have h := ih (l ++ [c])
    rw [List.append_assoc, List.singleton_append, valN_snoc] at h
    have := Nat.le_mul_of_pos_right (valN b l) hb
    omega
theorem valN_take (b : Nat) (hb : 1 ≤ b) (l : List UInt8) (k : Nat) : valN b (l.take k) ≤ valN b l := by
  have := valN_app b hb (l.take k) (l.drop k)
  rwa [List.take_append_drop] at this
/-- What the loop keeps. -/
structure WInv (b : Nat) (s : ByteArray) (k : Nat) : Prop where
  all : allW b (s.data.toList.take k)
  hi : valN b (s.data.toList.take k) ≤ 954572831
theorem WInv.start (b : Nat) (s : ByteArray) : WInv b s 0 := ⟨allW_nil b, by simp [valN]⟩
def valI (b : Nat) (s : ByteArray) (k : Nat) : Int := (valN b (s.data.toList.take k) : Int)
theorem valI_0 (b : Nat) (s : ByteArray) : valI b s 0 = 0 := rfl
theorem valI_bd {b : Nat} {s : ByteArray} {k : Nat} (h : WInv b s k) : 0 ≤ valI b s k ∧ valI b s k ≤ 954572831 := by
  have := h.hi
  unfold valI
  omega
theorem WInv.next {b : Nat} {s : ByteArray} {k : Nat} (h : WInv b s k) (hb : b ≤ 62) (hk : k < s.size) (hw : worthN s[k] < b) (hv : valI b s k ≤ 15396335) : WInv b s (k + 1) ∧ valI b s (k + 1) = valI b s k * b + worthN s[k] := by
  have e := take_snoc s k hk
  have v : valN b (s.data.toList.take (k + 1)) = valN b (s.data.toList.take k) * b + worthN s[k] := by rw [e, valN_snoc]
  have m : valN b (s.data.toList.take k) * b ≤ 15396335 * 62 := Nat.mul_le_mul (by unfold valI at hv; omega) hb
  refine ⟨⟨by rw [e]; exact allW_snoc h.all hw, by omega⟩, ?_⟩
  unfold valI
  rw [v]
  simp
theorem WInv.over {b : Nat} {s : ByteArray} {k : Nat} (hb : 1 ≤ b) (hv : ¬ valI b s k ≤ 15396335) : WholeIs b s.data.toList 0 false :=
  ⟨by omega, by omega, (fun h => by cases h), fun _ => ⟨rfl, fun g => by have := valN_take b hb s.data.toList k; unfold valI at hv; omega⟩⟩
theorem WInv.none {b : Nat} {s : ByteArray} {k : Nat} (hk : k < s.size) (hw : ¬ worthN s[k] < b) : WholeIs b s.data.toList 0 false :=
  ⟨by omega, by omega, (fun h => by cases h), fun _ => ⟨rfl, fun g => hw (g.1 _ (get_mem s k hk))⟩⟩
theorem WInv.fin {b : Nat} {s : ByteArray} {k : Nat} (h : WInv b s k) (hk : ¬ k < s.size) (ok : Bool) (ho : ok = decide (s.size ≠ 0)) : WholeIs b s.data.toList (valI b s k) ok := by
  have e := take_all s k hk
  have bd := valI_bd h
  have ha := h.all
  rw [e] at ha
  have hl : s.data.toList.length = s.size := by simp
  refine ⟨bd.1, by omega, fun g => ⟨ha, ?_, by unfold valI; rw [e]⟩, fun g => ?_⟩
  · rw [g] at ho
    have := of_decide_eq_true ho.symm
    intro z
    rw [z] at hl
    exact this hl.symm
  · rw [g] at ho
    have z := of_decide_eq_false ho.symm
    have z' : s.data.toList = [] := List.eq_nil_of_length_eq_zero (by omega)
    refine ⟨by unfold valI; rw [e, z']; rfl, fun g => g.2.1 z'⟩
theorem idxR_yes {b : Nat} {c : UInt8} (h : c.toNat < 128) (hw : worthN c < b) : idxR b (c.toNat : Int) = worthN c := by
  unfold idxR
  rw [Int.toNat_natCast, UInt8.ofNat_toNat, if_pos ⟨by omega, hw⟩]
theorem idxR_no {b : Nat} {c : UInt8} (hw : ¬ worthN c < b) : idxR b (c.toNat : Int) = -1 := by
  unfold idxR
  rw [Int.toNat_natCast, UInt8.ofNat_toNat, if_neg (fun g => hw g.2)]
theorem idxR_high {b : Nat} {r : Int} (h : 128 ≤ r) : idxR b r = -1 := if_neg (fun g => by omega)
theorem worth_high {c : UInt8} (h : 128 ≤ c.toNat) : worthN c = 99 := by
  unfold worthN
  rw [if_neg (by omega), if_neg (by omega), if_neg (by omega)]
theorem size_data (s : ByteArray) : s.size = s.data.toList.length := by simp
theorem str_ne (s : ByteArray) : (!s.toList.isEmpty) = decide (s.size ≠ 0) := by
  rw [size_data s, Lib.toList_data]
  cases s.data.toList <;> simp
def WholePost (b : Nat) (s : ByteArray) (w : World) (e : Ending) (w' : World) : Prop := ∃ (n : Int) (ok : Bool), e = .returned (.tuple #[.int .i64 n, .bool ok]) ∧ WholeIs b s.data.toList n ok ∧ Below w.heap.size w w'
theorem dig10 : (⟨#[48, 49, 50, 51, 52, 53, 54, 55, 56, 57, 65, 66, 67, 68, 69, 70, 71, 72, 73, 74, 75, 76, 77, 78, 79, 80, 81, 82, 83, 84, 85, 86, 87, 88, 89, 90, 97, 98, 99, 100, 101, 102, 103, 104, 105, 106, 107, 108, 109, 110, 111, 112, 113, 114, 115, 116, 117, 118, 119, 120, 121, 122]⟩ : ByteArray).extract 0 10 = digS 10 := by decide +kernel
theorem dig62' : (⟨#[48, 49, 50, 51, 52, 53, 54, 55, 56, 57, 65, 66, 67, 68, 69, 70, 71, 72, 73, 74, 75, 76, 77, 78, 79, 80, 81, 82, 83, 84, 85, 86, 87, 88, 89, 90, 97, 98, 99, 100, 101, 102, 103, 104, 105, 106, 107, 108, 109, 110, 111, 112, 113, 114, 115, 116, 117, 118, 119, 120, 121, 122]⟩ : ByteArray).extract 0 62 = digS 62 := by decide +kernel
set_option maxRecDepth 100000 in
set_option maxHeartbeats 2000000 in
theorem whole_10 (s : ByteArray) (w : World) (hs : s.size ≤ 1000) : Calls Tryd.prog 48 #[.string s, .int .i64 10] w (WholePost 10 s w) := by
  go_enter Tryd.func48, Tryd.ntmps48
  go_wp2
  go_loopw [6] (fun n w' => ∃ k : Nat, k ≤ s.size ∧ w' = w.iter s k ∧ n = .int .i64 (valI 10 s k) ∧ WInv 10 s k) (fun _ w' => s.size - w'.iterPos w.heap.size)
  case atStart => exact ⟨0, Nat.zero_le _, rfl, rfl, WInv.start 10 s⟩
  case round =>
    obtain ⟨k, hk, rfl, rfl, D⟩ := hrel
    by_cases hlt : k < s.size
    · have hnx : ∀ ty, (Instr.next (.pointer (some ⟨w.heap.size, 0, none⟩)) true ty).run Tryd.prog (w.iter s k) = _ := fun ty => run_next_any w s k ty hlt
      have bd := valI_bd D
      have DD := Lib.hid D
      clear D
      by_cases ha : (s[k]'hlt).toNat < 128
      · rw [decode_ascii s k hlt ha] at hnx
        have hnx' : ∀ ty, (Instr.next (.pointer (some ⟨w.heap.size, 0, none⟩)) true ty).run Tryd.prog (w.iter s k) = .ok (.tuple #[.bool true, .int .i64 k, .int .i32 ((s[k]'hlt).toNat : Int)]) (w.iter s (k + 1)) := hnx
        clear hnx
        have C := Lib.hid (idxr_any 10 ((s[k]'hlt).toNat : Int) (w.iter s (k + 1)) (Or.inl rfl) (by omega) (by omega))
        by_cases hw : worthN (s[k]'hlt) < 10
        · rw [idxR_yes ha hw] at C
          by_cases hv : valI 10 s k ≤ 15396335
          · have NX := Lib.hid (DD.out.next (by omega) hlt hw hv)
            go_wp2_with fail
            go_at_call 68
            refine C.out.mono ?_
            rintro e w1 ⟨rfl, _, h2⟩
            have h2 := h2 (by omega)
            subst h2
            clear C
            have wb : (worthN (s[k]'hlt) : Int) < 10 := by omega
            go_wp2_with fail
            go_roundw
            case rel => exact ⟨k + 1, by omega, rfl, by rw [NX.out.2]; rfl, NX.out.1⟩
            case measure => simp; omega
          · have OV := Lib.hid (WInv.over (b := 10) (s := s) (k := k) (by omega) hv)
            go_wp2_with fail
            go_at_call 68
            refine C.out.mono ?_
            rintro e w1 ⟨rfl, h1, _⟩
            clear C
            go_wp2_with fail
            go_ret2
            exact ⟨0, false, rfl, OV.out, below_then (below_iter _ _ _) h1⟩
        · rw [idxR_no hw] at C
          have OV := Lib.hid (WInv.none (b := 10) hlt hw)
          go_wp2_with fail
          go_at_call 68
          refine C.out.mono ?_
          rintro e w1 ⟨rfl, h1, _⟩
          clear C
          go_wp2_with fail
          go_ret2
          exact ⟨0, false, rfl, OV.out, below_then (below_iter _ _ _) h1⟩
      · obtain ⟨d1, d2⟩ := decode_high s k hlt (by omega)
        have d3 := decode_le s k
        have hw : ¬ worthN (s[k]'hlt) < 10 := by rw [worth_high (by omega)]; omega
        have OV := Lib.hid (WInv.none (b := 10) hlt hw)
        clear hw
        generalize (Utf8.decode s k).1 = r at *
        generalize (Utf8.decode s k).2 = q at *
        have C := Lib.hid (idxr_any 10 (r : Int) (w.iter s (k + q)) (Or.inl rfl) (by omega) (by omega))
        rw [idxR_high (by omega)] at C
        go_wp2_with fail
        go_at_call 68
        refine C.out.mono ?_
        rintro e w1 ⟨rfl, h1, _⟩
        clear C
        go_wp2_with fail
        go_ret2
        exact ⟨0, false, rfl, OV.out, below_then (below_iter _ _ _) h1⟩
    · have hnx : ∀ ty, (Instr.next (.pointer (some ⟨w.heap.size, 0, none⟩)) true ty).run Tryd.prog (w.iter s k) = _ := fun ty => run_next_end w s k ty hlt
      have F := Lib.hid (D.fin hlt)
      go_wp2
      go_ret2
      exact ⟨_, _, rfl, F.out _ (str_ne s), below_iter _ _ _⟩
set_option maxRecDepth 100000 in
set_option maxHeartbeats 2000000 in
theorem whole_62 (s : ByteArray) (w : World) (hs : s.size ≤ 1000) : Calls Tryd.prog 48 #[.string s, .int .i64 62] w (WholePost 62 s w) := by
  go_enter Tryd.func48, Tryd.ntmps48
  go_wp2
  go_loopw [6] (fun n w' => ∃ k : Nat, k ≤ s.size ∧ w' = w.iter s k ∧ n = .int .i64 (valI 62 s k) ∧ WInv 62 s k) (fun _ w' => s.size - w'.iterPos w.heap.size)
  case atStart => exact ⟨0, Nat.zero_le _, rfl, rfl, WInv.start 62 s⟩
  case round =>
    obtain ⟨k, hk, rfl, rfl, D⟩ := hrel
    by_cases hlt : k < s.size
    · have hnx : ∀ ty, (Instr.next (.pointer (some ⟨w.heap.size, 0, none⟩)) true ty).run Tryd.prog (w.iter s k) = _ := fun ty => run_next_any w s k ty hlt
      have bd := valI_bd D
      have DD := Lib.hid D
      clear D
      by_cases ha : (s[k]'hlt).toNat < 128
      · rw [decode_ascii s k hlt ha] at hnx
        have hnx' : ∀ ty, (Instr.next (.pointer (some ⟨w.heap.size, 0, none⟩)) true ty).run Tryd.prog (w.iter s k) = .ok (.tuple #[.bool true, .int .i64 k, .int .i32 ((s[k]'hlt).toNat : Int)]) (w.iter s (k + 1)) := hnx
        clear hnx
        have C := Lib.hid (idxr_any 62 ((s[k]'hlt).toNat : Int) (w.iter s (k + 1)) (Or.inr rfl) (by omega) (by omega))
        by_cases hw : worthN (s[k]'hlt) < 62
        · rw [idxR_yes ha hw] at C
          by_cases hv : valI 62 s k ≤ 15396335
          · have NX := Lib.hid (DD.out.next (by omega) hlt hw hv)
            go_wp2_with fail
            go_at_call 68
            refine C.out.mono ?_
            rintro e w1 ⟨rfl, _, h2⟩
            have h2 := h2 (by omega)
            subst h2
            clear C
            have wb : (worthN (s[k]'hlt) : Int) < 62 := by omega
            go_wp2_with fail
            go_roundw
            case rel => exact ⟨k + 1, by omega, rfl, by rw [NX.out.2]; rfl, NX.out.1⟩
            case measure => simp; omega
          · have OV := Lib.hid (WInv.over (b := 62) (s := s) (k := k) (by omega) hv)
            go_wp2_with fail
            go_at_call 68
            refine C.out.mono ?_
            rintro e w1 ⟨rfl, h1, _⟩
            clear C
            go_wp2_with fail
            go_ret2
            exact ⟨0, false, rfl, OV.out, below_then (below_iter _ _ _) h1⟩
        · rw [idxR_no hw] at C
          have OV := Lib.hid (WInv.none (b := 62) hlt hw)
          go_wp2_with fail
          go_at_call 68
          refine C.out.mono ?_
          rintro e w1 ⟨rfl, h1, _⟩
          clear C
          go_wp2_with fail
          go_ret2
          exact ⟨0, false, rfl, OV.out, below_then (below_iter _ _ _) h1⟩
      · obtain ⟨d1, d2⟩ := decode_high s k hlt (by omega)
        have d3 := decode_le s k
        have hw : ¬ worthN (s[k]'hlt) < 62 := by rw [worth_high (by omega)]; omega
        have OV := Lib.hid (WInv.none (b := 62) hlt hw)
        clear hw
        generalize (Utf8.decode s k).1 = r at *
        generalize (Utf8.decode s k).2 = q at *
        have C := Lib.hid (idxr_any 62 (r : Int) (w.iter s (k + q)) (Or.inr rfl) (by omega) (by omega))
        rw [idxR_high (by omega)] at C
        go_wp2_with fail
        go_at_call 68
        refine C.out.mono ?_
        rintro e w1 ⟨rfl, h1, _⟩
        clear C
        go_wp2_with fail
        go_ret2
        exact ⟨0, false, rfl, OV.out, below_then (below_iter _ _ _) h1⟩
    · have hnx : ∀ ty, (Instr.next (.pointer (some ⟨w.heap.size, 0, none⟩)) true ty).run Tryd.prog (w.iter s k) = _ := fun ty => run_next_end w s k ty hlt
      have F := Lib.hid (D.fin hlt)
      go_wp2
      go_ret2
      exact ⟨_, _, rfl, F.out _ (str_ne s), below_iter _ _ _⟩
end Dw
end Go.Proofs.YtafeigpmldgifaaDoor
/-
  The walks of place, isHalf and Check of package desig, and of HalfLetter, orderLetter and Check of the reference.
-/
namespace Go.Proofs.YtafeigpmldgifaaDoor
namespace Dw
open Go.RowKit Dp Lw

theorem ret_int {k : IntKind} {a b : Int} (h : a = b) : Ending.returned (.int k a) = .returned (.int k b) := by rw [h]
theorem ret_bool {a b : Bool} (h : a = b) : Ending.returned (.bool a) = .returned (.bool b) := by rw [h]

theorem gOrd : Tryd.prog.globalNamed "planisphere/desig.orders" = some 5 := by kernel_rfl
/-- The table of the order letters holds what its initialiser lays. -/
def Tab (w : World) : Prop := Lib.TabIs Tryd.prog w "planisphere/desig.orders" .i32 ordL
theorem Tab.below {w w' : World} (h : Tab w) (hb : Below w.heap.size w w') : Tab w' := Joins.tab_stays gOrd h hb (Nat.le_refl _)
theorem Tab.alloc {w : World} (h : Tab w) (o : Obj) : Tab (w.alloc o) := h.below ((Below.refl _ _).alloc (Nat.le_refl _) _)
theorem Tab.cell {w : World} (h : Tab w) (j : Nat) (hj : j < 25) : w.cell? ⟨5, j, none⟩ = some (.int .i32 (ordAt j)) := Lib.TabIs.cell h gOrd j hj

set_option maxHeartbeats 400000 in
theorem index_any (c : Int) (w : World) (hT : Tab w) (h0 : 0 ≤ c) (h1 : c < 256) :
    Calls Tryd.prog 16 #[.slice (some ⟨5, 0, none⟩) 25 25, .int .i32 c] w fun e w' => e = .returned (.int .i64 (placeI c)) ∧ w = w' := by
  go_enter Tryd.func16, Tryd.ntmps16
  go_wp2
  go_loop [5, 8] (fun x i => ∃ j : Nat, j ≤ 25 ∧ i = .int .i64 j ∧ Before c j) (fun _ i => 25 - (intOf i).toNat)
  case atStart => exact ⟨0, by omega, rfl, before_0 c⟩
  case round =>
    obtain ⟨j, hj, rfl, hB⟩ := hrel
    by_cases hlt : j < 25
    · have ck := hT.cell j hlt
      have i1 : (j : Int) < 25 := by omega
      by_cases he : ordAt j = c
      · have e1 : (c == ordAt j) = true := beq_iff_eq.2 he.symm
        have hp := Lib.hid (place_ord j hlt)
        have He := Lib.hid he
        clear he
        go_wp2
        go_ret
        exact ⟨ret_int (by rw [← He.out, hp.out]), rfl⟩
      · have e1 : (c == ordAt j) = false := beq_eq_false_iff_ne.2 (fun e => he e.symm)
        have HB := Lib.hid (before_s hB he)
        clear he hB
        go_wp2
        go_round
        case rel => exact ⟨j + 1, by omega, by go_num, HB.out⟩
        case measure => simp [intOf]; omega
    · obtain rfl : j = 25 := by omega
      have hp := Lib.hid (place_none h0 h1 hB)
      go_wp2
      go_ret
      exact ⟨ret_int hp.out.symm, rfl⟩

set_option maxHeartbeats 400000 in
theorem place_any (c : Int) (w : World) (hT : Tab w) (h0 : 0 ≤ c) (h1 : c < 256) :
    Calls Tryd.prog 70 #[.int .u8 c] w fun e w' => e = .returned (.int .i64 (placeI c)) ∧ w = w' := by
  go_enter Tryd.func70, Tryd.ntmps70
  go_wp2_with fail
  refine (index_any _ _ hT h0 h1).mono ?_
  rintro e w' ⟨rfl, rfl⟩
  go_wp2_with fail
  go_ret
  exact ⟨rfl, rfl⟩

set_option maxHeartbeats 400000 in
theorem isHalf_any (c : Int) (w : World) (hT : Tab w) (h0 : 0 ≤ c) (h1 : c < 256) :
    Calls Tryd.prog 69 #[.int .u8 c] w fun e w' => e = .returned (.bool (decide (0 ≤ placeI c) && decide (placeI c < 24))) ∧ w = w' := by
  go_enter Tryd.func69, Tryd.ntmps69
  go_wp2_with fail
  refine (place_any _ _ hT h0 h1).mono ?_
  rintro e w' ⟨rfl, rfl⟩
  go_wp2_with fail
  all_goals
    go_ret
    exact ⟨ret_bool (by first | (simp [*]; done) | (simp; omega)), rfl⟩

abbrev desigV (n y h s c : Int) : Value := .agg #[.int .i64 n, .int .i64 y, .int .u8 h, .int .u8 s, .int .i64 c]

set_option maxHeartbeats 2000000 in
theorem check_any (n y h s c : Int) (w : World) (hT : Tab w) (h0 : 0 ≤ h) (h1 : h < 256) (s0 : 0 ≤ s) (s1 : s < 256) :
    Calls Tryd.prog 50 #[desigV n y h s c] w fun e w' => e = .returned (.int .i64 (errC n y h s c)) ∧ Below w.heap.size w w' := by
  have hT2 : ∀ o o', Tab ((w.alloc o).alloc o') := fun o o' => (hT.alloc o).alloc o'
  have hhP := Lib.hid (halfP_iff h)
  have hsP := Lib.hid (secP_iff s)
  have HT2 := Lib.hid hT2
  clear hT2
  by_cases hn : n = 0
  · subst hn
    by_cases hc : c ≤ 619
    · have d1 : decide (c ≤ 619) = true := by simpa using hc
      go_enter Tryd.func50, Tryd.ntmps50
      go_wp2_with (first | (go_at_call 69; refine (isHalf_any _ _ (HT2.out _ _) h0 h1).mono ?_; rintro e w' ⟨rfl, rfl⟩) | (go_at_call 70; refine (place_any _ _ (HT2.out _ _) s0 s1).mono ?_; rintro e w' ⟨rfl, rfl⟩))
      all_goals go_ret
      all_goals
        refine ⟨ret_int ?_, ((Below.refl _ _).alloc (Nat.le_refl _) _).alloc (by simp) _⟩
        have g1 := hhP.out
        have g2 := hsP.out
        unfold halfP at g1
        unfold secP at g2
        unfold errC okD halfP secP
        first | exact (if_pos (by omega)).symm | exact (if_neg (by omega)).symm
    · have d1 : decide (c ≤ 619) = false := by simpa using hc
      go_enter Tryd.func50, Tryd.ntmps50
      go_wp2_with (first | (go_at_call 69; refine (isHalf_any _ _ (HT2.out _ _) h0 h1).mono ?_; rintro e w' ⟨rfl, rfl⟩) | (go_at_call 70; refine (place_any _ _ (HT2.out _ _) s0 s1).mono ?_; rintro e w' ⟨rfl, rfl⟩))
      all_goals go_ret
      all_goals
        refine ⟨ret_int ?_, ((Below.refl _ _).alloc (Nat.le_refl _) _).alloc (by simp) _⟩
        have g1 := hhP.out
        have g2 := hsP.out
        unfold halfP at g1
        unfold secP at g2
        unfold errC okD halfP secP
        first | exact (if_pos (by omega)).symm | exact (if_neg (by omega)).symm
  · have e1 : (n != 0) = true := bne_iff_ne.2 hn
    by_cases hc : n ≤ 15396335
    · have d1 : decide (n ≤ 15396335) = true := by simpa using hc
      go_enter Tryd.func50, Tryd.ntmps50
      go_wp2_with (first | (go_at_call 69; refine (isHalf_any _ _ (HT2.out _ _) h0 h1).mono ?_; rintro e w' ⟨rfl, rfl⟩) | (go_at_call 70; refine (place_any _ _ (HT2.out _ _) s0 s1).mono ?_; rintro e w' ⟨rfl, rfl⟩))
      all_goals go_ret
      all_goals
        refine ⟨ret_int ?_, ((Below.refl _ _).alloc (Nat.le_refl _) _).alloc (by simp) _⟩
        have g1 := hhP.out
        have g2 := hsP.out
        unfold halfP at g1
        unfold secP at g2
        unfold errC okD halfP secP
        first | exact (if_pos (by omega)).symm | exact (if_neg (by omega)).symm
    · have d1 : decide (n ≤ 15396335) = false := by simpa using hc
      go_enter Tryd.func50, Tryd.ntmps50
      go_wp2_with (first | (go_at_call 69; refine (isHalf_any _ _ (HT2.out _ _) h0 h1).mono ?_; rintro e w' ⟨rfl, rfl⟩) | (go_at_call 70; refine (place_any _ _ (HT2.out _ _) s0 s1).mono ?_; rintro e w' ⟨rfl, rfl⟩))
      all_goals go_ret
      all_goals
        refine ⟨ret_int ?_, ((Below.refl _ _).alloc (Nat.le_refl _) _).alloc (by simp) _⟩
        have g1 := hhP.out
        have g2 := hsP.out
        unfold halfP at g1
        unfold secP at g2
        unfold errC okD halfP secP
        first | exact (if_pos (by omega)).symm | exact (if_neg (by omega)).symm
end Dw
end Go.Proofs.YtafeigpmldgifaaDoor
/-
  Texts of numbers: strconv.Itoa and pad of package desig; letter, digit of the reference.
-/
namespace Go.Proofs.YtafeigpmldgifaaDoor
namespace Dw
open Go.RowKit Dp Lw

theorem gPow : Tryd.prog.globalNamed "internal/strconv.uint64pow10" = some 6 := by kernel_rfl
/-- The tables hold what their initialisers lay. -/
structure Tb (w : World) : Prop where
  ord : Tab w
  pow : Lib.TabIs Tryd.prog w "internal/strconv.uint64pow10" .u64 Lib.pow10Tab
theorem Tb.below {w w' : World} (h : Tb w) (hb : Below w.heap.size w w') : Tb w' := ⟨h.ord.below hb, Joins.tab_stays gPow h.pow hb (Nat.le_refl _)⟩
theorem below_grow (w : World) (k : Nat) (os : Array Obj) : Below w.heap.size w (Go.Sort.grow (w.drewN k) os) :=
  ⟨rfl, rfl, rfl, by simp [Go.Sort.grow, World.drewN], fun j hj => by
    show (w.heap ++ os)[j]? = w.heap[j]?
    rw [Array.getElem?_append_left hj]⟩
theorem str_app (a b : List UInt8) : ((⟨a.toArray⟩ : ByteArray) ++ ⟨b.toArray⟩) = ⟨(a ++ b).toArray⟩ := by
  apply ByteArray.ext
  simp [ByteArray.data_append]
theorem size_mk (l : List UInt8) : (⟨l.toArray⟩ : ByteArray).size = l.length := by simp [ByteArray.size]
theorem itoa_any (n : Int) (w : World) (hT : Tb w) (h0 : 0 ≤ n) (h1 : n ≤ 1000000000000000000) :
    Calls Tryd.prog 36 #[.int .i64 n] w fun e w' => e = .returned (.string ⟨(Lib.itoa n).toArray⟩) ∧ Below w.heap.size w w' :=
  (Tryd.strconv_Itoa n (by omega) (by omega) w hT.pow).mono fun _ _ ⟨x, k, os, y⟩ => ⟨x, by rw [y]; exact below_grow w k os⟩

theorem b8_cell {x : Int} (h0 : 0 ≤ x) (h1 : x < 256) : Value.int .u8 x = .int .u8 ((b8 x).toNat : Int) := by rw [b8_of h0 h1]
/-- A new row of two bytes, as a string. -/
theorem conv2 (w : World) (x y : Int) (c : Nat) (h0 : 0 ≤ x) (h1 : x < 256) (k0 : 0 ≤ y) (k1 : y < 256) (g : Nat) (hg : w.cell? ⟨g, 0, none⟩ = some (.int .u8 x)) (hg1 : w.cell? ⟨g, 1, none⟩ = some (.int .u8 y)) :
    (convert 58 9 (.slice (some ⟨g, 0, none⟩) 2 c)).run Tryd.prog w = .ok (.string ⟨[b8 x, b8 y].toArray⟩) w :=
  run_convert_bytes_back (P := Tryd.prog) w 58 9 5 ⟨g, 0, none⟩ c [b8 x, b8 y] Tryd.underlying58 Tryd.underlying5 Tryd.underlying9 (fun j hj => by
    match j, hj with
    | 0, _ => show w.cell? ⟨g, 0, none⟩ = _; rw [hg, b8_cell h0 h1]; rfl
    | 1, _ => show w.cell? ⟨g, 1, none⟩ = _; rw [hg1, b8_cell k0 k1]; rfl)
theorem conv1 (w : World) (x : Int) (c : Nat) (h0 : 0 ≤ x) (h1 : x < 256) (g : Nat) (hg : w.cell? ⟨g, 0, none⟩ = some (.int .u8 x)) :
    (convert 58 9 (.slice (some ⟨g, 0, none⟩) 1 c)).run Tryd.prog w = .ok (.string ⟨[b8 x].toArray⟩) w :=
  run_convert_bytes_back (P := Tryd.prog) w 58 9 5 ⟨g, 0, none⟩ c [b8 x] Tryd.underlying58 Tryd.underlying5 Tryd.underlying9 (fun j hj => by
    match j, hj with
    | 0, _ => show w.cell? ⟨g, 0, none⟩ = _; rw [hg, b8_cell h0 h1]; rfl)
theorem letter_any (c : Int) (w : World) (h0 : 0 ≤ c) (h1 : c < 256) :
    Calls Tryd.prog 73 #[.int .u8 c] w fun e w' => e = .returned (.string ⟨[b8 c].toArray⟩) ∧ Below w.heap.size w w' := by
  have C := conv1 (w.alloc (.cells #[.int .u8 c] 5)) c 1 h0 h1 w.heap.size (World.cell?_alloc_mark w _ _ _ 0)
  go_enter Tryd.func73, Tryd.ntmps73
  go_wp2_with fail
  go_ret
  exact ⟨rfl, (Below.refl _ _).alloc (Nat.le_refl _) _⟩
end Dw
end Go.Proofs.YtafeigpmldgifaaDoor
/-
  The walk of Next of package desig.
-/
namespace Go.Proofs.YtafeigpmldgifaaDoor
namespace Dw
open Go.RowKit Dp Lw

abbrev desigC (n y u s c : Int) : List Value := [.int .i64 n, .int .i64 y, .int .u8 u, .int .u8 s, .int .i64 c]
theorem info5d : (Tryd.prog.info? 50).map (·.size) = some 5 := by kernel_rfl
/-- A list of designations in memory. -/
structure Lst (w : World) (b off n : Nat) (L : Ls) : Prop where
  row : ∀ k, k < n → w.rangeAt b (off + k * 5) (desigC (L.N k) (L.Y k) (L.U k) (L.S k) (L.C k))
  lt : b < w.heap.size
  u0 : ∀ k, k < n → 0 ≤ L.U k
  u1 : ∀ k, k < n → L.U k < 256
  s0 : ∀ k, k < n → 0 ≤ L.S k
  s1 : ∀ k, k < n → L.S k < 256

def NextPost (L : Ls) (n : Nat) (y h : Int) (w : World) (e : Ending) (w' : World) : Prop := ∃ rn ry rh rs rc k : Int, e = .returned (.tuple #[desigV rn ry rh rs rc, .int .i64 k]) ∧ NextIs L n y h rn ry rh rs rc k ∧ Below w.heap.size w w'
theorem isHalf_dec {h : Int} (g : halfP h) : decide (0 ≤ placeI h) && decide (placeI h < 24) = true := by
  have := (halfP_iff h).1 g; simp; omega
theorem isHalf_dec_no {h : Int} (g : ¬ halfP h) : (decide (0 ≤ placeI h) && decide (placeI h < 24)) = false := by
  have : ¬ (0 ≤ placeI h ∧ placeI h < 24) := fun e => g ((halfP_iff h).2 e)
  simp; omega

end Dw
end Go.Proofs.YtafeigpmldgifaaDoor
