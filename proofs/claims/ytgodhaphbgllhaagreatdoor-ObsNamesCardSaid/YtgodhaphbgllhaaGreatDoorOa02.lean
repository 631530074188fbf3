/-
  Lemmas and walks, texts joined: Frame, MBPl, MNum, MTen, Shelf, MPad, MLike, MGrp, MForm, MCut, MForm2, MText.
-/
import Derived.Lib.SmallJoins
import Derived.ProofKit
import Derived.Lib.Hide
import Derived.Laws.RangeAny
import Derived.LoopTactic
import Derived.Deep.QuietTactic
import Derived.BigQuiet
import Derived.WalkLawsBesides
import Derived.WalkSpells
import Derived.Shelf.Bits.Mul64
import Derived.Shelf.LaysM
import Derived.Shelf.Pu.ParseUintPublic10
import Derived.Shelf.SlicesE.Clone
import Derived.Shelf.Small.Bits
import Derived.Shelf.Small.Strs
import Derived.Shelf.Small.Utf8
import Derived.Shelf.Small.Wraps
import Derived.Shelf.Strconv.Itoa0
import Derived.Shelf.Strconv.Itoa1
import Derived.Shelf.Strconv.Itoa2
import Derived.Shelf.Strconv.Itoa3
import Derived.Shelf.Strconv.Itoa4
import Derived.Shelf.Strings.Builder1
import Derived.Shelf.Strings.Builder2
import Derived.Shelf.Strings.BuilderF
import Derived.Shelf.Strings.Cut
import Derived.Shelf.Strings.OnBuilder
import Derived.Shelf.Strings.Prefix
import Derived.Shelf.Strings.Repeat
import Derived.Shelf.Strings.Runes
import Derived.Shelf.Strings.Search1
import Derived.Shelf.Strings.Search2
import Derived.Shelf.Strings.Shaped
import Derived.Shelf.Strings.SlTrimAscii
import Derived.Shelf.Strings.Trim
import Derived.Lib.LaidTab
import Derived.Laws.Concat
import Derived.Lib.Repeat
import Derived.Lib.ItoaLen
import Derived.Sort.Grow
import Derived.Deep.RegionHeld3
import Derived.StillTailTactics
import Derived.Test.YtgodhaphbgllhaaGreatDoorOa01
import Derived.Test.YtgodhaphbgllhaaGreatDoorRows
import Derived.Test.YtgodhaphbgllhaaGreatDoorProg
set_option linter.unusedSimpArgs false
set_option linter.unusedVariables false
/-
  Opening an argument that is a struct by value, whatever the number of its one-cell fields; for any program.
-/
namespace Go.Proofs.YtgodhaphbgllhaaGreatDoor
namespace Fr
open Go.Joins Go.ChangeShapes Go.WideShapes Go.RowKit Go.Deep

section
variable {H : Type} {enc : TypeId × Value → H} {P : Program} {w : World} {base : Nat} {spare : Nat → Bool} {held : Bool}
theorem open_agg {r : Reach} {b0 : Nat} {t : TypeId} {fs : Array Field} {v : Value} {d : DataW H} {p : List MemPlace} (hs : P.underlying t = some (.struct fs)) (hone : oneCellFields P fs = true) (hC : P.cellsOf t = fs.size)
    (hv : Value.okWide P w r b0 t v) (h : DataW.Trod enc P w base spare held t v d p) :
    ∃ l : List Value, v = .agg l.toArray ∧ l.length = fs.size ∧ ∃ n : Nat, ∀ (j : Nat) (f : Field) (c : Value), fs[j]? = some f → l[j]? = some c → ∃ y, DataW.trod enc P w base spare held n f.type [c] = some y := by
  obtain ⟨cs, rfl, hsz⟩ := okWide_struct hs hv
  obtain ⟨l⟩ := cs
  have hl : l.length = fs.size := hsz.trans hC
  obtain ⟨fuel, hf⟩ := h
  obtain ⟨xs, n, _, hx, _, hlen, hg⟩ := DataW.trod_struct hs hf
  refine ⟨l, rfl, hl, n, fun j f c hj hc => ?_⟩
  obtain ⟨o, k⟩ := hone_of hone j f hj
  have hjl : j < l.length := (List.getElem?_eq_some_iff.1 hc).1
  have h1 := hg j f hj
  rw [o, k] at h1
  have e : ((Value.agg l.toArray).cells.toList.drop j).take 1 = [c] := by
    show (l.drop j).take 1 = [c]
    rw [List.drop_eq_getElem_cons hjl]
    have := (List.getElem?_eq_some_iff.1 hc).2
    simp [this]
  rw [e] at h1
  have hxl : j < xs.length := by omega
  exact ⟨xs[j], h1.trans (List.getElem?_eq_getElem hxl)⟩
end
theorem one_eq {a b : Value} (h : [a] = [b]) : a = b := by injection h
theorem list2 {l : List Value} (h : l.length = 2) : ∃ a b, l = [a, b] := by match l, h with | [a, b], _ => exact ⟨a, b, rfl⟩
theorem list3 {l : List Value} (h : l.length = 3) : ∃ a b c, l = [a, b, c] := by match l, h with | [a, b, c], _ => exact ⟨a, b, c, rfl⟩
theorem list4 {l : List Value} (h : l.length = 4) : ∃ a b c d, l = [a, b, c, d] := by match l, h with | [a, b, c, d], _ => exact ⟨a, b, c, d, rfl⟩
theorem list5 {l : List Value} (h : l.length = 5) : ∃ a b c d e, l = [a, b, c, d, e] := by match l, h with | [a, b, c, d, e], _ => exact ⟨a, b, c, d, e, rfl⟩
theorem list6 {l : List Value} (h : l.length = 6) : ∃ a b c d e f, l = [a, b, c, d, e, f] := by match l, h with | [a, b, c, d, e, f], _ => exact ⟨a, b, c, d, e, f, rfl⟩
theorem list7 {l : List Value} (h : l.length = 7) : ∃ a b c d e f g, l = [a, b, c, d, e, f, g] := by match l, h with | [a, b, c, d, e, f, g], _ => exact ⟨a, b, c, d, e, f, g, rfl⟩
theorem list8 {l : List Value} (h : l.length = 8) : ∃ a b c d e f g i, l = [a, b, c, d, e, f, g, i] := by match l, h with | [a, b, c, d, e, f, g, i], _ => exact ⟨a, b, c, d, e, f, g, i, rfl⟩
end Fr
end Go.Proofs.YtgodhaphbgllhaaGreatDoor
/-
  Plain laws: ToUtc and FromUtc are inverse, and later times have later dates.
-/
namespace Go.Proofs.YtgodhaphbgllhaaGreatDoor
namespace Mp

theorem dec_abs {x : Int} (h : 0 ≤ x) : 60 * (x / 60) + x % 60 = x := by omega
/-- The date of a time is a date, and its time is the time. -/
theorem to_from {t n y m z k : Int} (hd : DayOf t n y m z k) :
    fromOk y m (n - mo y m + 1) (mins (t - bgv n y m) / 60) (mins (t - bgv n y m) % 60) ((t - bgv n y m) / 1000000 - 60 * mins (t - bgv n y m)) ((t - bgv n y m) % 1000000) ∧
    timeOf y m (n - mo y m + 1) (mins (t - bgv n y m) / 60) (mins (t - bgv n y m) % 60) ((t - bgv n y m) / 1000000 - 60 * mins (t - bgv n y m)) ((t - bgv n y m) % 1000000) = t := by
  have hw : wholeP y m (n - mo y m + 1) := ⟨hd.y1, by have := hd.y2; omega, hd.ym.m1, hd.ym.m12, by have := hd.ym.lo; omega, by have := hd.ym.hi; omega⟩
  have e : dn y m (n - mo y m + 1) = n := by rw [dn_mo]; omega
  have dl := day_len (z := z) (k := k) hw (by rw [e]; exact hd.zk)
  rw [e] at dl
  obtain ⟨p0, p1⟩ := hd.pass
  have hi := hd.hi
  obtain ⟨p, hp⟩ : ∃ p, t - bgv n y m = p := ⟨_, rfl⟩
  rw [hp] at p0 p1 ⊢
  have mb : 0 ≤ mins p ∧ mins p ≤ 1439 := by unfold mins; split <;> omega
  constructor
  · refine ⟨hw, by omega, by omega, by omega, by omega, ?_, by omega, by omega, ?_⟩
    · unfold mins; split <;> omega
    · by_cases c : p / 1000000 / 60 ≤ 1439
      · left
        have em : mins p = p / 1000000 / 60 := if_pos c
        rw [em]; omega
      · right
        have em : mins p = 1439 := if_neg c
        rw [em]
        refine ⟨by omega, by omega, by omega, ?_⟩
        rcases dl with ⟨a, _⟩ | ⟨_, b⟩
        · omega
        · exact b
  · unfold timeOf
    rw [e]
    omega
/-- The time of a date has the date. -/
theorem from_to {y m d h i s u : Int} (ok : fromOk y m d h i s u) : ∃ z k, DayOf (timeOf y m d h i s u) (dn y m d) y m z k ∧
    d = dn y m d - mo y m + 1 ∧ h = mins (timeOf y m d h i s u - bgv (dn y m d) y m) / 60 ∧ i = mins (timeOf y m d h i s u - bgv (dn y m d) y m) % 60 ∧
    s = (timeOf y m d h i s u - bgv (dn y m d) y m) / 1000000 - 60 * mins (timeOf y m d h i s u - bgv (dn y m d) y m) ∧ u = (timeOf y m d h i s u - bgv (dn y m d) y m) % 1000000 := by
  obtain ⟨hw, h1, h2, h3, h4, h5, h6, h7, h8⟩ := ok
  have wr := wholeP_range hw
  obtain ⟨z, k, z1, z2, zk⟩ := ym_ex (dn y m d + 1) (by omega) (by omega)
  have dl := day_len hw zk
  have ep : timeOf y m d h i s u - bgv (dn y m d) y m = (3600 * h + 60 * i + s) * 1000000 + u := by unfold timeOf; omega
  refine ⟨z, k, ⟨wholeP_ym hw, zk, by omega, ?_, by omega, by omega, hw.1, by have := hw.2.1; omega⟩, by rw [dn_mo]; omega, ?_⟩
  · rcases h8 with c | ⟨c1, c2, c3, c4⟩
    · rcases dl with ⟨a, _⟩ | ⟨a, _⟩ <;> omega
    · rcases dl with ⟨_, b⟩ | ⟨a, _⟩
      · exact absurd c4 b
      · omega
  · rw [ep]
    rcases h8 with c | ⟨c1, c2, c3, c4⟩
    · have em : mins ((3600 * h + 60 * i + s) * 1000000 + u) = 60 * h + i := by
        unfold mins
        rw [if_pos (by omega)]
        omega
      rw [em]; omega
    · subst c1 c2 c3
      have em : mins ((3600 * 23 + 60 * 59 + 60) * 1000000 + u) = 1439 := by
        unfold mins
        rw [if_neg (by omega)]
      rw [em]; omega
theorem ToIs.back {t y m d h i s u : Int} (a : ToIs t y m d h i s u 0) : FromIs y m d h i s u t 0 := by
  rcases a with ⟨_, _, _, _, _, _, _, _, c⟩ | ⟨a1, a2, n, z, k, hd, rfl, rfl, rfl, rfl, rfl, _⟩
  · omega
  · obtain ⟨b1, b2⟩ := to_from hd
    exact Or.inl ⟨b1, b2.symm, rfl⟩
theorem FromIs.back {t y m d h i s u : Int} (a : FromIs y m d h i s u t 0) : ToIs t y m d h i s u 0 := by
  rcases a with ⟨ok, rfl, _⟩ | ⟨_, _, c⟩
  · obtain ⟨z, k, hd, e1, e2, e3, e4, e5⟩ := from_to ok
    refine Or.inr ⟨?_, ?_, dn y m d, z, k, hd, e1, e2, e3, e4, e5, rfl⟩
    · have := bgv_mono hd.ym ym_72 hd.n1; have := hd.lo; omega
    · have := bgv_mono ym_00 hd.zk (by have := hd.n2; omega); have := hd.hi; omega
  · omega
theorem ToIs.code {t y m d h i s u c : Int} (a : ToIs t y m d h i s u c) : c = 0 ∨ (c = 16 ∧ y = 0 ∧ m = 0 ∧ d = 0 ∧ h = 0 ∧ i = 0 ∧ s = 0 ∧ u = 0) := by
  rcases a with ⟨_, b1, b2, b3, b4, b5, b6, b7, c⟩ | ⟨_, _, _, _, _, _, _, _, _, _, _, c⟩
  · exact Or.inr ⟨c, b1, b2, b3, b4, b5, b6, b7⟩
  · exact Or.inl c
theorem FromIs.code {t y m d h i s u c : Int} (a : FromIs y m d h i s u t c) : c = 0 ∨ (c = 2 ∧ t = 0) := by
  rcases a with ⟨_, _, c⟩ | ⟨_, b, c⟩
  · exact Or.inl c
  · exact Or.inr ⟨c, b⟩
theorem DayOf.bd {t n y m z k : Int} (h : DayOf t n y m z k) : -1000000000000000 ≤ t ∧ t ≤ 4000000000000000 := by
  have a := bgv_bd n y m (by have := h.n1; omega) (by have := h.n2; omega)
  have b := bgv_bd (n + 1) z k (by have := h.n1; omega) (by have := h.n2; omega)
  have := h.lo
  have := h.hi
  omega
theorem FromIs.bd {t y m d h i s u c : Int} (a : FromIs y m d h i s u t c) : -1000000000000000 ≤ t ∧ t ≤ 4000000000000000 := by
  rcases a with ⟨ok, rfl, _⟩ | ⟨_, rfl, c⟩
  · obtain ⟨z, k, hd, _⟩ := from_to ok
    exact hd.bd
  · omega
theorem ToIs.bd {t y m d h i s u : Int} (a : ToIs t y m d h i s u 0) : -1000000000000000 ≤ t ∧ t ≤ 4000000000000000 := a.back.bd
/-! ### The order of dates -/
def lexB : List Int → List Int → Bool
  | a :: l, b :: r => if a = b then lexB l r else decide (a < b)
  | _, _ => false
theorem ym_lt {n y m n' y' m' : Int} (h : IsYM n y m) (g : IsYM n' y' m') (lt : n < n') : y < y' ∨ y = y' ∧ (m < m' ∨ m = m' ∧ n - mo y m + 1 < n' - mo y' m' + 1) := by
  rcases Int.lt_trichotomy y y' with c | c | c
  · exact Or.inl c
  · subst c
    rcases Int.lt_trichotomy m m' with e | e | e
    · exact Or.inr ⟨rfl, Or.inl e⟩
    · subst e
      exact Or.inr ⟨rfl, Or.inr ⟨rfl, by omega⟩⟩
    · have := mo_le y (m' + 1) m (by have := g.m1; omega) (by omega)
      have := h.lo
      have := g.hi
      omega
  · have := mo_year_le (y' + 1) y (by omega)
    have := h.ylo
    have := g.yhi
    omega
theorem lex_lt {t u y m d h i s c y' m' d' h' i' s' c' : Int} (a : ToIs t y m d h i s c 0) (b : ToIs u y' m' d' h' i' s' c' 0) (lt : t < u) :
    lexB [y, m, d, h, i, s, c] [y', m', d', h', i', s', c'] = true := by
  rcases a with ⟨_, _, _, _, _, _, _, _, k⟩ | ⟨a1, a2, n, z, k, hd, rfl, rfl, rfl, rfl, rfl, _⟩
  · omega
  rcases b with ⟨_, _, _, _, _, _, _, _, k⟩ | ⟨b1, b2, n', z', k', hd', rfl, rfl, rfl, rfl, rfl, _⟩
  · omega
  have le : n ≤ n' := hd'.le hd.ym (by have := hd.lo; omega)
  rcases Int.lt_or_eq_of_le le with c | c
  · rcases ym_lt hd.ym hd'.ym c with e | ⟨rfl, e | ⟨rfl, e⟩⟩
    · simp only [lexB]; rw [if_neg (by omega)]; exact decide_eq_true e
    · simp only [lexB, if_true]; rw [if_neg (by omega)]; exact decide_eq_true e
    · simp only [lexB, if_true]; rw [if_neg (by omega)]; exact decide_eq_true e
  · subst c
    obtain ⟨rfl, rfl⟩ := ym_uniq hd.ym hd'.ym
    obtain ⟨p0, p1⟩ := hd.pass
    obtain ⟨q0, q1⟩ := hd'.pass
    obtain ⟨p, hp⟩ : ∃ p, t - bgv n y m = p := ⟨_, rfl⟩
    obtain ⟨q, hq⟩ : ∃ q, u - bgv n y m = q := ⟨_, rfl⟩
    rw [hp] at p0 p1 ⊢
    rw [hq] at q0 q1 ⊢
    have pq : p < q := by omega
    clear hp hq hd hd' a1 a2 b1 b2 lt le
    have em : mins p = if p / 1000000 / 60 ≤ 1439 then p / 1000000 / 60 else 1439 := rfl
    have en : mins q = if q / 1000000 / 60 ≤ 1439 then q / 1000000 / 60 else 1439 := rfl
    have ml : mins p ≤ mins q := by rw [em, en]; split <;> split <;> omega
    have hm : mins p < mins q ∨ mins p = mins q := by omega
    simp only [lexB, if_true]
    rcases hm with c | c
    · by_cases e1 : mins p / 60 = mins q / 60
      · rw [if_pos e1, if_neg (by omega)]; exact decide_eq_true (by omega)
      · rw [if_neg e1]; exact decide_eq_true (by omega)
    · rw [c, if_pos rfl, if_pos rfl]
      by_cases e1 : p / 1000000 - 60 * mins q = q / 1000000 - 60 * mins q
      · rw [if_pos e1, if_neg (by omega)]; exact decide_eq_true (by omega)
      · rw [if_neg e1]; exact decide_eq_true (by omega)
theorem lexB_irr : ∀ l : List Int, lexB l l = false
  | [] => rfl
  | a :: l => by simp only [lexB, if_true]; exact lexB_irr l
theorem lexB_asymm : ∀ l r : List Int, lexB l r = true → lexB r l = false
  | [], _, h => by simp [lexB] at h
  | _ :: _, [], h => by simp [lexB] at h
  | a :: l, b :: r, h => by
    simp only [lexB] at *
    by_cases e : a = b
    · subst e
      rw [if_pos rfl] at h ⊢
      exact lexB_asymm l r h
    · rw [if_neg e] at h
      rw [if_neg (fun x => e x.symm)]
      have := of_decide_eq_true h
      exact decide_eq_false (by omega)
theorem lex_is {t u y m d h i s c y' m' d' h' i' s' c' : Int} (a : ToIs t y m d h i s c 0) (b : ToIs u y' m' d' h' i' s' c' 0) :
    lexB [y, m, d, h, i, s, c] [y', m', d', h', i', s', c'] = decide (t < u) := by
  rcases Int.lt_trichotomy t u with e | e | e
  · rw [lex_lt a b e, decide_eq_true e]
  · subst e
    obtain ⟨rfl, rfl, rfl, rfl, rfl, rfl, rfl, _⟩ := a.uniq b
    rw [lexB_irr, decide_eq_false (by omega)]
  · rw [lexB_asymm _ _ (lex_lt b a e), decide_eq_false (by omega)]
theorem date_eq {t u y m d h i s c y' m' d' h' i' s' c' : Int} (a : ToIs t y m d h i s c 0) (b : ToIs u y' m' d' h' i' s' c' 0) :
    (y = y' ∧ m = m' ∧ d = d' ∧ h = h' ∧ i = i' ∧ s = s' ∧ c = c') ↔ t = u := by
  constructor
  · rintro ⟨rfl, rfl, rfl, rfl, rfl, rfl, rfl⟩
    exact (a.back.uniq b.back).1
  · rintro rfl
    obtain ⟨e1, e2, e3, e4, e5, e6, e7, _⟩ := a.uniq b
    exact ⟨e1, e2, e3, e4, e5, e6, e7⟩
/-! ### Months -/
/-- The first second of a month. -/
theorem first_ok {y m : Int} (h : 1972 ≤ y) (g : y < 2100) (a : 1 ≤ m) (b : m ≤ 12) : FromIs y m 1 0 0 0 0 (bgv (mo y m) y m) 0 := by
  have e : timeOf y m 1 0 0 0 0 = bgv (mo y m) y m := by unfold timeOf mo; omega
  refine Or.inl ⟨⟨⟨h, g, a, b, by omega, by have := mo_len y m a b; omega⟩, by omega, by omega, by omega, by omega, by omega, by omega, by omega, Or.inl (by omega)⟩, e.symm, rfl⟩
theorem first_no {y m : Int} (g : ¬ y < 2100) : FromIs y m 1 0 0 0 0 0 2 := Or.inr ⟨fun ⟨⟨_, h, _⟩, _⟩ => g h, rfl, rfl⟩
/-- A time, its month and the next one. -/
theorem month_of {t y m d h i s u : Int} (a : ToIs t y m d h i s u 0) : 1972 ≤ y ∧ y < 2100 ∧ 1 ≤ m ∧ m ≤ 12 ∧ bgv (mo y m) y m ≤ t ∧
    (∀ z k, (z = y ∧ k = m + 1 ∧ m < 12) ∨ (z = y + 1 ∧ k = 1 ∧ m = 12) → 
      t < bgv (mo z k) z k ∧ mo y m + 28 ≤ mo z k ∧ mo z k ≤ mo y m + 31 ∧ bgv (mo z k) z k = bgv (mo y m) y m + (mo z k - mo y m) * 86400000000 + (lps (12 * z + k - 1) - lps (12 * y + m - 1)) * 1000000) := by
  rcases a with ⟨_, _, _, _, _, _, _, _, k⟩ | ⟨a1, a2, n, z, k, hd, rfl, rfl, rfl, rfl, rfl, _⟩
  · omega
  have m1 := hd.ym.m1
  have m12 := hd.ym.m12
  refine ⟨hd.y1, by have := hd.y2; omega, m1, m12, ?_, ?_⟩
  · have := bgv_mono hd.ym (ym_first y m m1 m12) hd.ym.lo
    have := hd.lo
    omega
  · intro z' k' hz
    have ml := mo_len y m m1 m12
    have e : mo z' k' = mo y (m + 1) := by
      rcases hz with ⟨rfl, rfl, _⟩ | ⟨rfl, rfl, rfl⟩
      · rfl
      · exact (mo_13 y).symm
    have hk : 1 ≤ k' ∧ k' ≤ 12 := by omega
    refine ⟨hd.gt (ym_first z' k' hk.1 hk.2) (by rw [e]; exact hd.ym.hi), by omega, by omega, ?_⟩
    unfold bgv
    rw [e]
    omega
end Mp
end Go.Proofs.YtgodhaphbgllhaaGreatDoor
/-
  Reading digits: number of the reference.
-/
namespace Go.Proofs.YtgodhaphbgllhaaGreatDoor
namespace Ap
open Go.RowKit Lw

def numL (l : List UInt8) : Int := l.foldl (fun n c => 10 * n + ((c.toNat : Int) - 48)) 0
def allD (l : List UInt8) : Prop := ∀ c ∈ l, 48 ≤ (c.toNat : Int) ∧ (c.toNat : Int) ≤ 57
instance (l : List UInt8) : Decidable (allD l) := by unfold allD; infer_instance
/-- The number that a string of digits is, or -1. -/
def numV (l : List UInt8) : Int := if allD l then numL l else -1
theorem numL_snoc (l : List UInt8) (c : UInt8) : numL (l ++ [c]) = 10 * numL l + ((c.toNat : Int) - 48) := by simp [numL]
theorem allD_snoc {l : List UInt8} {c : UInt8} (h : allD l) (h1 : 48 ≤ (c.toNat : Int)) (h2 : (c.toNat : Int) ≤ 57) : allD (l ++ [c]) := fun x hx => by
  rcases List.mem_append.1 hx with g | g
  · exact h x g
  · have := List.mem_singleton.1 g; subst this; exact ⟨h1, h2⟩
theorem take_snoc (s : ByteArray) (k : Nat) (h : k < s.size) : s.data.toList.take (k + 1) = s.data.toList.take k ++ [s[k]] := by
  rw [List.take_succ_eq_append_getElem (by simpa using h)]; rfl
theorem take_all (s : ByteArray) (k : Nat) (h : ¬ k < s.size) : s.data.toList.take k = s.data.toList := List.take_of_length_le (by simp; omega)
theorem numL_bd (l : List UInt8) : ∀ k, k ≤ l.length → allD (l.take k) → 0 ≤ numL (l.take k) ∧ numL (l.take k) < 10 ^ k
  | 0, _, _ => by simp [numL]
  | k + 1, hk, h => by
    have e : l.take (k + 1) = l.take k ++ [l[k]] := List.take_succ_eq_append_getElem (by omega)
    rw [e] at h ⊢
    have ih := numL_bd l k (by omega) (fun x hx => h x (List.mem_append_left _ hx))
    have hc := h l[k] (List.mem_append_right _ (List.mem_singleton.2 rfl))
    rw [numL_snoc, Int.pow_succ]
    omega
theorem pow_17 : ∀ k : Nat, k < 18 → (10 : Int) ^ k ≤ 100000000000000000 := by decide
theorem numL_17 (s : ByteArray) (k : Nat) (hk : k ≤ s.size) (h18 : k < 18) (h : allD (s.data.toList.take k)) : 0 ≤ numL (s.data.toList.take k) ∧ numL (s.data.toList.take k) < 100000000000000000 := by
  have := numL_bd s.data.toList k (by simpa using hk) h
  have := pow_17 k h18
  omega
theorem numV_not (s : ByteArray) (k : Nat) (hk : k < s.size) (h : ¬ (48 ≤ (s[k].toNat : Int) ∧ (s[k].toNat : Int) ≤ 57)) : numV s.data.toList = -1 := by
  unfold numV
  rw [if_neg]
  intro g
  exact h (g s[k] (by
    have : s[k] = s.data.toList[k]'(by simpa using hk) := rfl
    rw [this]; exact List.getElem_mem _))
theorem numV_all (s : ByteArray) (k : Nat) (hk : ¬ k < s.size) (h : allD (s.data.toList.take k)) : numL (s.data.toList.take k) = numV s.data.toList := by
  rw [take_all s k hk] at h ⊢
  unfold numV
  rw [if_pos h]
theorem byte_bd (b : UInt8) : 0 ≤ (b.toNat : Int) ∧ (b.toNat : Int) < 256 := by have := b.toNat_lt; omega
theorem ret_i {a b : Int} (h : a = b) : Ending.returned (.int .i64 a) = .returned (.int .i64 b) := by rw [h]
theorem val_i {a b : Int} (h : a = b) : Value.int .i64 a = .int .i64 b := by rw [h]
end Ap
end Go.Proofs.YtgodhaphbgllhaaGreatDoor
/-
  Powers of ten: package moment and the reference.
-/
namespace Go.Proofs.YtgodhaphbgllhaaGreatDoor
namespace Ap
open Go.RowKit Lw

/-- A power of ten. -/
def tenI (k : Nat) : Int := (10 ^ k : Nat)
theorem tenI_s (k : Nat) : tenI (k + 1) = tenI k * 10 := by unfold tenI; rw [Nat.pow_succ]; omega
theorem tenI_bd : ∀ k : Nat, k ≤ 18 → 1 ≤ tenI k ∧ tenI k ≤ 1000000000000000000 := by decide
theorem tenI_17 : ∀ k : Nat, k < 18 → 1 ≤ tenI k ∧ tenI k ≤ 100000000000000000 := by decide

theorem val_u {a b : Int} (h : a = b) : Value.int .u64 a = .int .u64 b := by rw [h]
set_option maxHeartbeats 400000 in
theorem ten_any (n : Nat) (w : World) (hn : n ≤ 18) :
    Calls Tryz.prog 78 #[.int .i64 n] w fun e w' => e = .returned (.int .u64 (tenI n)) ∧ w = w' := by
  go_enter Tryz.func78, Tryz.ntmps78
  go_wp2
  go_loop [3, 5] (fun p i => ∃ k : Nat, k ≤ n ∧ i = .int .i64 k ∧ p = .int .u64 (tenI k)) (fun _ i => n - (intOf i).toNat)
  case atStart => exact ⟨0, Nat.zero_le _, rfl, rfl⟩
  case round =>
    obtain ⟨k, hk, rfl, rfl⟩ := hrel
    by_cases hlt : k < n
    · have nb := tenI_17 k (by omega)
      have HS := Lib.hid (tenI_s k)
      go_wp2
      go_round
      case rel => exact ⟨k + 1, by omega, by go_num, val_u HS.out.symm⟩
      case measure => simp [intOf]; omega
    · obtain rfl : k = n := by omega
      go_wp2
      go_ret
      exact ⟨rfl, rfl⟩

set_option maxHeartbeats 400000 in
theorem rten_any (n : Nat) (w : World) (hn : n ≤ 18) :
    Calls Tryz.prog 132 #[.int .i64 n] w fun e w' => e = .returned (.int .i64 (tenI n)) ∧ w = w' := by
  go_enter Tryz.func132, Tryz.ntmps132
  go_wp2
  go_loop [3, 4] (fun p i => ∃ k : Nat, k ≤ n ∧ i = .int .i64 k ∧ p = .int .i64 (tenI k)) (fun _ i => n - (intOf i).toNat)
  case atStart => exact ⟨0, Nat.zero_le _, rfl, rfl⟩
  case round =>
    obtain ⟨k, hk, rfl, rfl⟩ := hrel
    by_cases hlt : k < n
    · have nb := tenI_17 k (by omega)
      have HS := Lib.hid (show tenI (k + 1) = 10 * tenI k by rw [tenI_s]; omega)
      go_wp2
      go_round
      case rel => exact ⟨k + 1, by omega, by go_num, val_i HS.out.symm⟩
      case measure => simp [intOf]; omega
    · obtain rfl : k = n := by omega
      go_wp2
      go_ret
      exact ⟨rfl, rfl⟩
end Ap
end Go.Proofs.YtgodhaphbgllhaaGreatDoor
/-
  The library contracts that this claim uses, laid at its program: cut out of what the shelf's own program writes.
-/
namespace Go.Proofs
open Go.Shelf
def Tryz.lays156_ren : Go.Shelf.Ren := ⟨fun | 156 => 177 | 165 => 72 | 166 => 62 | 169 => 63 | 240 => 109 | 241 => 121 | 276 => 157 | 277 => 174 | n => n, fun | 31 => 184 | 9 => 9 | 3 => 3 | 4 => 4 | 0 => 0 | 20 => 20 | 72 => 89 | 76 => 92 | 70 => 87 | 37 => 42 | 75 => 91 | 127 => 139 | 164 => 169 | 5 => 5 | 80 => 94 | n => n, fun | n => n⟩
theorem Tryz.lays156 : Go.Proofs.Lays.n156 Tryz.prog Tryz.lays156_ren := {
  mixed := by kernel_rfl
  f156 := Tryz.func177.trans (congrArg some (by kernel_rfl))
  f165 := Tryz.func72.trans (congrArg some (by kernel_rfl))
  f166 := Tryz.func62.trans (congrArg some (by kernel_rfl))
  f169 := Tryz.func63.trans (congrArg some (by kernel_rfl))
  f240 := Tryz.func109.trans (congrArg some (by kernel_rfl))
  f241 := Tryz.func121.trans (congrArg some (by kernel_rfl))
  f276 := Tryz.func157.trans (congrArg some (by kernel_rfl))
  f277 := Tryz.func174.trans (congrArg some (by kernel_rfl))
  t0 := Tryz.underlying0
  a0 := Tryz.isAgg0
  z0 := Tryz.sizeOf0
  v0 := Tryz.zeroValue0
  t3 := Tryz.underlying3
  a3 := Tryz.isAgg3
  z3 := Tryz.sizeOf3
  v3 := Tryz.zeroValue3
  t4 := Tryz.underlying4
  a4 := Tryz.isAgg4
  z4 := Tryz.sizeOf4
  v4 := Tryz.zeroValue4
  t9 := Tryz.underlying9
  a9 := Tryz.isAgg9
  z9 := Tryz.sizeOf9
  v9 := Tryz.zeroValue9
  t20 := Tryz.underlying20
  a20 := Tryz.isAgg20
  z20 := Tryz.sizeOf20
  v20 := Tryz.zeroValue20
  t31 := Tryz.underlying184
  a31 := Tryz.isAgg184
  z31 := Tryz.sizeOf184
  v31 := Tryz.zeroValue184
  t37 := Tryz.underlying42
  a37 := Tryz.isAgg42
  z37 := Tryz.sizeOf42
  v37 := Tryz.zeroValue42
  t70 := Tryz.underlying87
  a70 := Tryz.isAgg87
  z70 := Tryz.sizeOf87
  v70 := Tryz.zeroValue87
  t72 := Tryz.underlying89
  a72 := Tryz.isAgg89
  z72 := Tryz.sizeOf89
  v72 := Tryz.zeroValue89
  t75 := Tryz.underlying91
  a75 := Tryz.isAgg91
  z75 := Tryz.sizeOf91
  v75 := Tryz.zeroValue91
  t76 := Tryz.underlying92
  a76 := Tryz.isAgg92
  z76 := Tryz.sizeOf92
  v76 := Tryz.zeroValue92
  t127 := Tryz.underlying139
  a127 := Tryz.isAgg139
  z127 := Tryz.sizeOf139
  v127 := Tryz.zeroValue139
  t164 := Tryz.underlying169
  a164 := Tryz.isAgg169
  z164 := Tryz.sizeOf169
  v164 := Tryz.zeroValue169 }
theorem Tryz.Builder_Extra_156 : Builder.Extra Tryz.prog Tryz.lays156_ren := {
  sizeBuilder := by kernel_rfl
  liesBuilder := by kernel_rfl
  t5 := Tryz.underlying5
  a5 := Tryz.isAgg5
  z5 := Tryz.sizeOf5
  v5 := Tryz.zeroValue5
  infoByte := by kernel_rfl
  cellsByte := by kernel_rfl
  sizeByte := by kernel_rfl
  neB5 := by decide }
open Go.RowKit in
/-- strings.Join: "Join concatenates the elements of its first argument to create a single string. The separator string sep is placed between elements in the resulting string.": HOWEVER MANY ELEMENTS. Below the heap's end the world is as it was. (LAID: no walk: one application.) -/
theorem Tryz.strings_Join (bk o c : Nat) (xs : List ByteArray) (sep : ByteArray) (w : World) (hcells : ∀ (j : Nat) x, xs[j]? = some x → w.cell? ⟨bk, o + j, none⟩ = some (.string x)) (hbk : bk < w.heap.size) (hN : xs.length ≤ 140737488355328) (hcap : xs.length ≤ c) (hlen : (Lib.join (xs.map (·.data.toList)) sep.data.toList).length ≤ 140737488355328) :
    Calls Tryz.prog 177 #[.slice (some ⟨bk, o, none⟩) xs.length c, .string sep] w fun e w' => e = .returned (.string ⟨(Lib.join (xs.map (·.data.toList)) sep.data.toList).toArray⟩) ∧ Below w.heap.size w w' := Any.strings_Join Tryz.lays156 Tryz.Builder_Extra_156 bk o c xs sep w hcells hbk hN hcap hlen
def Tryz.lays161_ren : Go.Shelf.Ren := ⟨fun | 161 => 100 | 231 => 139 | 227 => 141 | 233 => 142 | 235 => 144 | 228 => 185 | 197 => 186 | 151 => 187 | 260 => 209 | 152 => 210 | 137 => 219 | 119 => 220 | 224 => 195 | 225 => 194 | 217 => 193 | 266 => 212 | n => n, fun | 9 => 9 | 4 => 4 | 3 => 3 | 5 => 5 | 117 => 158 | 116 => 157 | 0 => 0 | 124 => 161 | 105 => 191 | 21 => 21 | 119 => 223 | 46 => 105 | 139 => 226 | 138 => 225 | n => n, fun | 3 => 6 | 4 => 7 | n => n⟩
theorem Tryz.lays161 : Go.Proofs.Lays.n161 Tryz.prog Tryz.lays161_ren := {
  mixed := by kernel_rfl
  f119 := Tryz.func220.trans (congrArg some (by kernel_rfl))
  f137 := Tryz.func219.trans (congrArg some (by kernel_rfl))
  f151 := Tryz.func187.trans (congrArg some (by kernel_rfl))
  f152 := Tryz.func210.trans (congrArg some (by kernel_rfl))
  f161 := Tryz.func100.trans (congrArg some (by kernel_rfl))
  f197 := Tryz.func186.trans (congrArg some (by kernel_rfl))
  f217 := Tryz.func193.trans (congrArg some (by kernel_rfl))
  f224 := Tryz.func195.trans (congrArg some (by kernel_rfl))
  f225 := Tryz.func194.trans (congrArg some (by kernel_rfl))
  f227 := Tryz.func141.trans (congrArg some (by kernel_rfl))
  f228 := Tryz.func185.trans (congrArg some (by kernel_rfl))
  f231 := Tryz.func139.trans (congrArg some (by kernel_rfl))
  f233 := Tryz.func142.trans (congrArg some (by kernel_rfl))
  f235 := Tryz.func144.trans (congrArg some (by kernel_rfl))
  f260 := Tryz.func209.trans (congrArg some (by kernel_rfl))
  f266 := Tryz.func212.trans (congrArg some (by kernel_rfl))
  t0 := Tryz.underlying0
  a0 := Tryz.isAgg0
  z0 := Tryz.sizeOf0
  v0 := Tryz.zeroValue0
  t3 := Tryz.underlying3
  a3 := Tryz.isAgg3
  z3 := Tryz.sizeOf3
  v3 := Tryz.zeroValue3
  t4 := Tryz.underlying4
  a4 := Tryz.isAgg4
  z4 := Tryz.sizeOf4
  v4 := Tryz.zeroValue4
  t5 := Tryz.underlying5
  a5 := Tryz.isAgg5
  z5 := Tryz.sizeOf5
  v5 := Tryz.zeroValue5
  t9 := Tryz.underlying9
  a9 := Tryz.isAgg9
  z9 := Tryz.sizeOf9
  v9 := Tryz.zeroValue9
  t21 := Tryz.underlying21
  a21 := Tryz.isAgg21
  z21 := Tryz.sizeOf21
  v21 := Tryz.zeroValue21
  t46 := Tryz.underlying105
  a46 := Tryz.isAgg105
  z46 := Tryz.sizeOf105
  v46 := Tryz.zeroValue105
  t105 := Tryz.underlying191
  a105 := Tryz.isAgg191
  z105 := Tryz.sizeOf191
  v105 := Tryz.zeroValue191
  t116 := Tryz.underlying157
  a116 := Tryz.isAgg157
  z116 := Tryz.sizeOf157
  t117 := Tryz.underlying158
  a117 := Tryz.isAgg158
  z117 := Tryz.sizeOf158
  v117 := Tryz.zeroValue158
  t119 := Tryz.underlying223
  a119 := Tryz.isAgg223
  z119 := Tryz.sizeOf223
  t124 := Tryz.underlying161
  a124 := Tryz.isAgg161
  z124 := Tryz.sizeOf161
  v124 := Tryz.zeroValue161
  t138 := Tryz.underlying225
  a138 := Tryz.isAgg225
  z138 := Tryz.sizeOf225
  v138 := Tryz.zeroValue225
  t139 := Tryz.underlying226
  a139 := Tryz.isAgg226
  z139 := Tryz.sizeOf226
  v139 := Tryz.zeroValue226
  g3 := by kernel_rfl
  g4 := by kernel_rfl }
open Go.RowKit in
/-- strings.TrimLeft: "TrimLeft returns a slice of the string s with all leading Unicode code points contained in cutset removed.": AT A cutset OF ONE ASCII BYTE. The world is as it was. (LAID: no walk: one application.) -/
theorem Tryz.strings_TrimLeft_one (s : ByteArray) (c : UInt8) (hc : c.toNat < 128) (w : World) :
    Calls Tryz.prog 100 #[.string s, .string ⟨#[c]⟩] w fun e w' => e = .returned (.string ⟨(Lib.trimLeftB s.data.toList c).toArray⟩) ∧ w' = w := Any.strings_TrimLeft_one Tryz.lays161 s c hc w
def Tryz.lays162_ren : Go.Shelf.Ren := ⟨fun | 162 => 93 | 232 => 140 | 227 => 141 | 234 => 143 | 236 => 145 | 228 => 185 | 271 => 188 | 151 => 187 | 120 => 211 | 197 => 186 | 152 => 210 | 260 => 209 | 137 => 219 | 119 => 220 | 224 => 195 | 225 => 194 | 217 => 193 | 266 => 212 | n => n, fun | 9 => 9 | 4 => 4 | 3 => 3 | 5 => 5 | 117 => 158 | 116 => 157 | 0 => 0 | 124 => 161 | 21 => 21 | 105 => 191 | 46 => 105 | 119 => 223 | 139 => 226 | 138 => 225 | n => n, fun | 3 => 6 | 4 => 7 | n => n⟩
theorem Tryz.lays162 : Go.Proofs.Lays.n162 Tryz.prog Tryz.lays162_ren := {
  mixed := by kernel_rfl
  f119 := Tryz.func220.trans (congrArg some (by kernel_rfl))
  f120 := Tryz.func211.trans (congrArg some (by kernel_rfl))
  f137 := Tryz.func219.trans (congrArg some (by kernel_rfl))
  f151 := Tryz.func187.trans (congrArg some (by kernel_rfl))
  f152 := Tryz.func210.trans (congrArg some (by kernel_rfl))
  f162 := Tryz.func93.trans (congrArg some (by kernel_rfl))
  f197 := Tryz.func186.trans (congrArg some (by kernel_rfl))
  f217 := Tryz.func193.trans (congrArg some (by kernel_rfl))
  f224 := Tryz.func195.trans (congrArg some (by kernel_rfl))
  f225 := Tryz.func194.trans (congrArg some (by kernel_rfl))
  f227 := Tryz.func141.trans (congrArg some (by kernel_rfl))
  f228 := Tryz.func185.trans (congrArg some (by kernel_rfl))
  f232 := Tryz.func140.trans (congrArg some (by kernel_rfl))
  f234 := Tryz.func143.trans (congrArg some (by kernel_rfl))
  f236 := Tryz.func145.trans (congrArg some (by kernel_rfl))
  f260 := Tryz.func209.trans (congrArg some (by kernel_rfl))
  f266 := Tryz.func212.trans (congrArg some (by kernel_rfl))
  f271 := Tryz.func188.trans (congrArg some (by kernel_rfl))
  t0 := Tryz.underlying0
  a0 := Tryz.isAgg0
  z0 := Tryz.sizeOf0
  v0 := Tryz.zeroValue0
  t3 := Tryz.underlying3
  a3 := Tryz.isAgg3
  z3 := Tryz.sizeOf3
  v3 := Tryz.zeroValue3
  t4 := Tryz.underlying4
  a4 := Tryz.isAgg4
  z4 := Tryz.sizeOf4
  v4 := Tryz.zeroValue4
  t5 := Tryz.underlying5
  a5 := Tryz.isAgg5
  z5 := Tryz.sizeOf5
  v5 := Tryz.zeroValue5
  t9 := Tryz.underlying9
  a9 := Tryz.isAgg9
  z9 := Tryz.sizeOf9
  v9 := Tryz.zeroValue9
  t21 := Tryz.underlying21
  a21 := Tryz.isAgg21
  z21 := Tryz.sizeOf21
  v21 := Tryz.zeroValue21
  t46 := Tryz.underlying105
  a46 := Tryz.isAgg105
  z46 := Tryz.sizeOf105
  v46 := Tryz.zeroValue105
  t105 := Tryz.underlying191
  a105 := Tryz.isAgg191
  z105 := Tryz.sizeOf191
  v105 := Tryz.zeroValue191
  t116 := Tryz.underlying157
  a116 := Tryz.isAgg157
  z116 := Tryz.sizeOf157
  t117 := Tryz.underlying158
  a117 := Tryz.isAgg158
  z117 := Tryz.sizeOf158
  v117 := Tryz.zeroValue158
  t119 := Tryz.underlying223
  a119 := Tryz.isAgg223
  z119 := Tryz.sizeOf223
  t124 := Tryz.underlying161
  a124 := Tryz.isAgg161
  z124 := Tryz.sizeOf161
  v124 := Tryz.zeroValue161
  t138 := Tryz.underlying225
  a138 := Tryz.isAgg225
  z138 := Tryz.sizeOf225
  v138 := Tryz.zeroValue225
  t139 := Tryz.underlying226
  a139 := Tryz.isAgg226
  z139 := Tryz.sizeOf226
  v139 := Tryz.zeroValue226
  g3 := by kernel_rfl
  g4 := by kernel_rfl }
open Go.RowKit in
/-- strings.TrimRight: "TrimRight returns a slice of the string s, with all trailing Unicode code points contained in cutset removed.": AT A cutset OF ONE ASCII BYTE. The world is as it was. (LAID: no walk: one application.) -/
theorem Tryz.strings_TrimRight_one (s : ByteArray) (c : UInt8) (hc : c.toNat < 128) (w : World) (hs : s.size ≤ 9223372036854775807) :
    Calls Tryz.prog 93 #[.string s, .string ⟨#[c]⟩] w fun e w' => e = .returned (.string ⟨(Lib.trimRightB s.data.toList c).toArray⟩) ∧ w' = w := Any.strings_TrimRight_one Tryz.lays162 s c hc w hs
def Tryz.lays160_ren : Go.Shelf.Ren := ⟨fun | 160 => 92 | 232 => 140 | 231 => 139 | 227 => 141 | 234 => 143 | 233 => 142 | 236 => 145 | 235 => 144 | 228 => 185 | 271 => 188 | 151 => 187 | 197 => 186 | 120 => 211 | 152 => 210 | 260 => 209 | 137 => 219 | 119 => 220 | 224 => 195 | 225 => 194 | 217 => 193 | 266 => 212 | n => n, fun | 9 => 9 | 4 => 4 | 3 => 3 | 5 => 5 | 117 => 158 | 116 => 157 | 0 => 0 | 124 => 161 | 21 => 21 | 105 => 191 | 46 => 105 | 119 => 223 | 139 => 226 | 138 => 225 | n => n, fun | 3 => 6 | 4 => 7 | n => n⟩
theorem Tryz.lays160 : Go.Proofs.Lays.n160 Tryz.prog Tryz.lays160_ren := {
  mixed := by kernel_rfl
  f119 := Tryz.func220.trans (congrArg some (by kernel_rfl))
  f120 := Tryz.func211.trans (congrArg some (by kernel_rfl))
  f137 := Tryz.func219.trans (congrArg some (by kernel_rfl))
  f151 := Tryz.func187.trans (congrArg some (by kernel_rfl))
  f152 := Tryz.func210.trans (congrArg some (by kernel_rfl))
  f160 := Tryz.func92.trans (congrArg some (by kernel_rfl))
  f197 := Tryz.func186.trans (congrArg some (by kernel_rfl))
  f217 := Tryz.func193.trans (congrArg some (by kernel_rfl))
  f224 := Tryz.func195.trans (congrArg some (by kernel_rfl))
  f225 := Tryz.func194.trans (congrArg some (by kernel_rfl))
  f227 := Tryz.func141.trans (congrArg some (by kernel_rfl))
  f228 := Tryz.func185.trans (congrArg some (by kernel_rfl))
  f231 := Tryz.func139.trans (congrArg some (by kernel_rfl))
  f232 := Tryz.func140.trans (congrArg some (by kernel_rfl))
  f233 := Tryz.func142.trans (congrArg some (by kernel_rfl))
  f234 := Tryz.func143.trans (congrArg some (by kernel_rfl))
  f235 := Tryz.func144.trans (congrArg some (by kernel_rfl))
  f236 := Tryz.func145.trans (congrArg some (by kernel_rfl))
  f260 := Tryz.func209.trans (congrArg some (by kernel_rfl))
  f266 := Tryz.func212.trans (congrArg some (by kernel_rfl))
  f271 := Tryz.func188.trans (congrArg some (by kernel_rfl))
  t0 := Tryz.underlying0
  a0 := Tryz.isAgg0
  z0 := Tryz.sizeOf0
  v0 := Tryz.zeroValue0
  t3 := Tryz.underlying3
  a3 := Tryz.isAgg3
  z3 := Tryz.sizeOf3
  v3 := Tryz.zeroValue3
  t4 := Tryz.underlying4
  a4 := Tryz.isAgg4
  z4 := Tryz.sizeOf4
  v4 := Tryz.zeroValue4
  t5 := Tryz.underlying5
  a5 := Tryz.isAgg5
  z5 := Tryz.sizeOf5
  v5 := Tryz.zeroValue5
  t9 := Tryz.underlying9
  a9 := Tryz.isAgg9
  z9 := Tryz.sizeOf9
  v9 := Tryz.zeroValue9
  t21 := Tryz.underlying21
  a21 := Tryz.isAgg21
  z21 := Tryz.sizeOf21
  v21 := Tryz.zeroValue21
  t46 := Tryz.underlying105
  a46 := Tryz.isAgg105
  z46 := Tryz.sizeOf105
  v46 := Tryz.zeroValue105
  t105 := Tryz.underlying191
  a105 := Tryz.isAgg191
  z105 := Tryz.sizeOf191
  v105 := Tryz.zeroValue191
  t116 := Tryz.underlying157
  a116 := Tryz.isAgg157
  z116 := Tryz.sizeOf157
  t117 := Tryz.underlying158
  a117 := Tryz.isAgg158
  z117 := Tryz.sizeOf158
  v117 := Tryz.zeroValue158
  t119 := Tryz.underlying223
  a119 := Tryz.isAgg223
  z119 := Tryz.sizeOf223
  t124 := Tryz.underlying161
  a124 := Tryz.isAgg161
  z124 := Tryz.sizeOf161
  v124 := Tryz.zeroValue161
  t138 := Tryz.underlying225
  a138 := Tryz.isAgg225
  z138 := Tryz.sizeOf225
  v138 := Tryz.zeroValue225
  t139 := Tryz.underlying226
  a139 := Tryz.isAgg226
  z139 := Tryz.sizeOf226
  v139 := Tryz.zeroValue226
  g3 := by kernel_rfl
  g4 := by kernel_rfl }
open Go.RowKit in
/-- strings.Trim: "Trim returns a slice of the string s with all leading and trailing Unicode code points contained in cutset removed.": AT A cutset OF ONE ASCII BYTE. THE WORLD BEHIND IT: as it was, or (where s is not empty) with ONE DRAW MORE off the tape: the statement 'return trimLeftByte(trimRightByte(s, c), c)' draws its order of evaluation. (LAID: no walk: one application.) -/
theorem Tryz.strings_Trim_one (s : ByteArray) (c : UInt8) (hc : c.toNat < 128) (w : World) (hs : s.size ≤ 9223372036854775807) :
    Calls Tryz.prog 92 #[.string s, .string ⟨#[c]⟩] w fun e w' => e = .returned (.string ⟨(Lib.trimB s.data.toList c).toArray⟩) ∧ (w' = w ∨ w' = w.drew) := Any.strings_Trim_one Tryz.lays160 s c hc w hs
def Tryz.lays134_ren : Go.Shelf.Ren := ⟨fun | 134 => 123 | 129 => 168 | n => n, fun | 53 => 115 | 3 => 3 | 4 => 4 | 46 => 105 | 5 => 5 | 9 => 9 | n => n, fun | n => n⟩
theorem Tryz.lays134 : Go.Proofs.Lays.n134 Tryz.prog Tryz.lays134_ren := {
  mixed := by kernel_rfl
  f129 := Tryz.func168.trans (congrArg some (by kernel_rfl))
  f134 := Tryz.func123.trans (congrArg some (by kernel_rfl))
  t3 := Tryz.underlying3
  a3 := Tryz.isAgg3
  z3 := Tryz.sizeOf3
  v3 := Tryz.zeroValue3
  t4 := Tryz.underlying4
  a4 := Tryz.isAgg4
  z4 := Tryz.sizeOf4
  v4 := Tryz.zeroValue4
  t5 := Tryz.underlying5
  a5 := Tryz.isAgg5
  z5 := Tryz.sizeOf5
  v5 := Tryz.zeroValue5
  t9 := Tryz.underlying9
  a9 := Tryz.isAgg9
  z9 := Tryz.sizeOf9
  v9 := Tryz.zeroValue9
  t46 := Tryz.underlying105
  a46 := Tryz.isAgg105
  z46 := Tryz.sizeOf105
  v46 := Tryz.zeroValue105
  t53 := Tryz.underlying115
  a53 := Tryz.isAgg115
  z53 := Tryz.sizeOf115
  v53 := Tryz.zeroValue115 }
/-- bits.LeadingZeros64: "LeadingZeros64 returns the number of leading zero bits in x; the result is 64 for x == 0.": IT RETURNS '64 - Lib.bitLen x'; the world is as it was. ITS CALLEE bits.Len64 IS MET BY ITS OWN CONTRACT OFF THE SHELF (lay that first): entered in place it sends the kernel out of memory. (LAID: no walk: one application.) -/
theorem Tryz.bits_LeadingZeros64 (x : Int) (w : World) (h0 : 0 ≤ x) (h1 : x ≤ 18446744073709551615) :
    Calls Tryz.prog 123 #[.int .u64 x] w fun e w' => e = .returned (.int .i64 (64 - (Lib.bitLen x.toNat : Int))) ∧ w' = w := Any.bits_LeadingZeros64 Tryz.lays134 x w h0 h1
def Tryz.lays137_ren : Go.Shelf.Ren := ⟨fun | 137 => 219 | 217 => 193 | 266 => 212 | n => n, fun | 9 => 9 | 5 => 5 | 3 => 3 | n => n, fun | n => n⟩
theorem Tryz.lays137 : Go.Proofs.Lays.n137 Tryz.prog Tryz.lays137_ren := {
  mixed := by kernel_rfl
  f137 := Tryz.func219.trans (congrArg some (by kernel_rfl))
  f217 := Tryz.func193.trans (congrArg some (by kernel_rfl))
  f266 := Tryz.func212.trans (congrArg some (by kernel_rfl))
  t3 := Tryz.underlying3
  a3 := Tryz.isAgg3
  z3 := Tryz.sizeOf3
  v3 := Tryz.zeroValue3
  t5 := Tryz.underlying5
  a5 := Tryz.isAgg5
  z5 := Tryz.sizeOf5
  v5 := Tryz.zeroValue5
  t9 := Tryz.underlying9
  a9 := Tryz.isAgg9
  z9 := Tryz.sizeOf9
  v9 := Tryz.zeroValue9 }
open Go.RowKit in
/-- strings.IndexByte: "IndexByte returns the index of the first instance of c in s, or -1 if c is not present in s.": IT RETURNS 'Lib.indexByte s c'; the world is as it was. (LAID: no walk: one application.) -/
theorem Tryz.strings_IndexByte (s : ByteArray) (c : Int) (w : World) :
    Calls Tryz.prog 219 #[.string s, .int .u8 c] w fun e w' => e = .returned (.int .i64 (Lib.indexByte s.data.toList c.toNat.toUInt8)) ∧ w' = w := Any.strings_IndexByte Tryz.lays137 s c w
def Tryz.laysM171_ren : Go.Shelf.Ren := ⟨fun | 171 => 86 | 243 => 129 | 246 => 175 | 283 => 203 | 284 => 204 | 285 => 205 | 286 => 206 | 129 => 168 | 317 => 215 | 318 => 216 | 319 => 217 | 320 => 218 | 337 => 221 | 338 => 222 | n => n, fun | 3 => 3 | 9 => 9 | 2 => 2 | 4 => 4 | 171 => 203 | 0 => 0 | 53 => 115 | 37 => 42 | 5 => 5 | 173 => 205 | 212 => 218 | 51 => 146 | 20 => 20 | 213 => 219 | 46 => 105 | 232 => 227 | 233 => 228 | n => n, fun | 17 => 5 | 18 => 8 | 19 => 9 | n => n⟩
theorem Tryz.laysM171 : Go.Proofs.LaysM.n171 Tryz.prog Tryz.laysM171_ren := {
  mixed := by kernel_rfl
  f129 := Tryz.func168.trans (congrArg some (by kernel_rfl))
  f171 := Tryz.func86.trans (congrArg some (by kernel_rfl))
  f243 := Tryz.func129.trans (congrArg some (by kernel_rfl))
  f246 := Tryz.func175.trans (congrArg some (by kernel_rfl))
  f283 := Tryz.func203.trans (congrArg some (by kernel_rfl))
  f284 := Tryz.func204.trans (congrArg some (by kernel_rfl))
  f285 := Tryz.func205.trans (congrArg some (by kernel_rfl))
  f286 := Tryz.func206.trans (congrArg some (by kernel_rfl))
  f317 := Tryz.func215.trans (congrArg some (by kernel_rfl))
  f318 := Tryz.func216.trans (congrArg some (by kernel_rfl))
  f319 := Tryz.func217.trans (congrArg some (by kernel_rfl))
  f320 := Tryz.func218.trans (congrArg some (by kernel_rfl))
  f337 := Tryz.func221.trans (congrArg some (by kernel_rfl))
  f338 := Tryz.func222.trans (congrArg some (by kernel_rfl))
  t0 := Tryz.underlying0
  a0 := Tryz.isAgg0
  z0 := Tryz.sizeOf0
  v0 := Tryz.zeroValue0
  t2 := Tryz.underlying2
  a2 := Tryz.isAgg2
  z2 := Tryz.sizeOf2
  v2 := Tryz.zeroValue2
  t3 := Tryz.underlying3
  a3 := Tryz.isAgg3
  z3 := Tryz.sizeOf3
  v3 := Tryz.zeroValue3
  t4 := Tryz.underlying4
  a4 := Tryz.isAgg4
  z4 := Tryz.sizeOf4
  v4 := Tryz.zeroValue4
  t5 := Tryz.underlying5
  a5 := Tryz.isAgg5
  z5 := Tryz.sizeOf5
  v5 := Tryz.zeroValue5
  t9 := Tryz.underlying9
  a9 := Tryz.isAgg9
  z9 := Tryz.sizeOf9
  v9 := Tryz.zeroValue9
  t20 := Tryz.underlying20
  a20 := Tryz.isAgg20
  z20 := Tryz.sizeOf20
  v20 := Tryz.zeroValue20
  t37 := Tryz.underlying42
  a37 := Tryz.isAgg42
  z37 := Tryz.sizeOf42
  v37 := Tryz.zeroValue42
  t46 := Tryz.underlying105
  a46 := Tryz.isAgg105
  z46 := Tryz.sizeOf105
  v46 := Tryz.zeroValue105
  t51 := Tryz.underlying146
  a51 := Tryz.isAgg146
  z51 := Tryz.sizeOf146
  v51 := Tryz.zeroValue146
  t53 := Tryz.underlying115
  a53 := Tryz.isAgg115
  z53 := Tryz.sizeOf115
  v53 := Tryz.zeroValue115
  t171 := Tryz.underlying203
  a171 := Tryz.isAgg203
  z171 := Tryz.sizeOf203
  v171 := Tryz.zeroValue203
  t173 := Tryz.underlying205
  a173 := Tryz.isAgg205
  z173 := Tryz.sizeOf205
  v173 := Tryz.zeroValue205
  t212 := Tryz.underlying218
  a212 := Tryz.isAgg218
  z212 := Tryz.sizeOf218
  v212 := Tryz.zeroValue218
  t213 := Tryz.underlying219
  a213 := Tryz.isAgg219
  z213 := Tryz.sizeOf219
  t232 := Tryz.underlying227
  a232 := Tryz.isAgg227
  z232 := Tryz.sizeOf227
  v232 := Tryz.zeroValue227
  t233 := Tryz.underlying228
  a233 := Tryz.isAgg228
  z233 := Tryz.sizeOf228
  v233 := Tryz.zeroValue228
  g17 := by kernel_rfl
  g18 := by kernel_rfl
  g19 := by kernel_rfl
  i0 := by kernel_rfl
  i2 := by kernel_rfl
  i3 := by kernel_rfl
  i4 := by kernel_rfl
  i5 := by kernel_rfl
  i9 := by kernel_rfl
  i20 := by kernel_rfl
  i37 := by kernel_rfl
  i46 := by kernel_rfl
  i51 := by kernel_rfl
  i53 := by kernel_rfl
  i171 := by kernel_rfl
  i173 := by kernel_rfl
  i212 := by kernel_rfl
  i232 := by kernel_rfl
  i233 := by kernel_rfl
  m17 := by kernel_rfl
  m18 := by kernel_rfl
  m19 := by kernel_rfl }
open Go.RowKit Go.Sort Go.Lib in
/-- strconv.Itoa: "Itoa is equivalent to FormatInt(int64(i), 10).": i's DECIMAL NUMERAL ('Lib.itoa': a '-' where i is negative, then the digits), FOR EVERY int. The world behind the call: the world before it, new blocks behind the heap (the library's 'var a [24]byte'), draws. (LAID: no walk: one application.) -/
theorem Tryz.strconv_Itoa (n : Int) (h0 : -9223372036854775808 ≤ n) (h1 : n ≤ 9223372036854775807) (w : World) (htab : Lib.TabIs Tryz.prog w "internal/strconv.uint64pow10" .u64 Lib.pow10Tab) :
    Calls Tryz.prog 86 #[.int .i64 n] w fun e w' => e = .returned (.string ⟨(Lib.itoa n).toArray⟩) ∧ ∃ k os, w' = grow (w.drewN k) os := Any.strconv_Itoa Tryz.laysM171 n h0 h1 w htab
def Tryz.laysM173_ren : Go.Shelf.Ren := ⟨fun | 173 => 122 | 246 => 175 | 283 => 203 | 284 => 204 | 285 => 205 | 286 => 206 | 129 => 168 | 317 => 215 | 318 => 216 | 319 => 217 | 320 => 218 | 337 => 221 | 338 => 222 | n => n, fun | 2 => 2 | 3 => 3 | 9 => 9 | 4 => 4 | 171 => 203 | 0 => 0 | 53 => 115 | 37 => 42 | 5 => 5 | 173 => 205 | 212 => 218 | 51 => 146 | 20 => 20 | 213 => 219 | 46 => 105 | 232 => 227 | 233 => 228 | n => n, fun | 17 => 5 | 18 => 8 | 19 => 9 | n => n⟩
theorem Tryz.laysM173 : Go.Proofs.LaysM.n173 Tryz.prog Tryz.laysM173_ren := {
  mixed := by kernel_rfl
  f129 := Tryz.func168.trans (congrArg some (by kernel_rfl))
  f173 := Tryz.func122.trans (congrArg some (by kernel_rfl))
  f246 := Tryz.func175.trans (congrArg some (by kernel_rfl))
  f283 := Tryz.func203.trans (congrArg some (by kernel_rfl))
  f284 := Tryz.func204.trans (congrArg some (by kernel_rfl))
  f285 := Tryz.func205.trans (congrArg some (by kernel_rfl))
  f286 := Tryz.func206.trans (congrArg some (by kernel_rfl))
  f317 := Tryz.func215.trans (congrArg some (by kernel_rfl))
  f318 := Tryz.func216.trans (congrArg some (by kernel_rfl))
  f319 := Tryz.func217.trans (congrArg some (by kernel_rfl))
  f320 := Tryz.func218.trans (congrArg some (by kernel_rfl))
  f337 := Tryz.func221.trans (congrArg some (by kernel_rfl))
  f338 := Tryz.func222.trans (congrArg some (by kernel_rfl))
  t0 := Tryz.underlying0
  a0 := Tryz.isAgg0
  z0 := Tryz.sizeOf0
  v0 := Tryz.zeroValue0
  t2 := Tryz.underlying2
  a2 := Tryz.isAgg2
  z2 := Tryz.sizeOf2
  v2 := Tryz.zeroValue2
  t3 := Tryz.underlying3
  a3 := Tryz.isAgg3
  z3 := Tryz.sizeOf3
  v3 := Tryz.zeroValue3
  t4 := Tryz.underlying4
  a4 := Tryz.isAgg4
  z4 := Tryz.sizeOf4
  v4 := Tryz.zeroValue4
  t5 := Tryz.underlying5
  a5 := Tryz.isAgg5
  z5 := Tryz.sizeOf5
  v5 := Tryz.zeroValue5
  t9 := Tryz.underlying9
  a9 := Tryz.isAgg9
  z9 := Tryz.sizeOf9
  v9 := Tryz.zeroValue9
  t20 := Tryz.underlying20
  a20 := Tryz.isAgg20
  z20 := Tryz.sizeOf20
  v20 := Tryz.zeroValue20
  t37 := Tryz.underlying42
  a37 := Tryz.isAgg42
  z37 := Tryz.sizeOf42
  v37 := Tryz.zeroValue42
  t46 := Tryz.underlying105
  a46 := Tryz.isAgg105
  z46 := Tryz.sizeOf105
  v46 := Tryz.zeroValue105
  t51 := Tryz.underlying146
  a51 := Tryz.isAgg146
  z51 := Tryz.sizeOf146
  v51 := Tryz.zeroValue146
  t53 := Tryz.underlying115
  a53 := Tryz.isAgg115
  z53 := Tryz.sizeOf115
  v53 := Tryz.zeroValue115
  t171 := Tryz.underlying203
  a171 := Tryz.isAgg203
  z171 := Tryz.sizeOf203
  v171 := Tryz.zeroValue203
  t173 := Tryz.underlying205
  a173 := Tryz.isAgg205
  z173 := Tryz.sizeOf205
  v173 := Tryz.zeroValue205
  t212 := Tryz.underlying218
  a212 := Tryz.isAgg218
  z212 := Tryz.sizeOf218
  v212 := Tryz.zeroValue218
  t213 := Tryz.underlying219
  a213 := Tryz.isAgg219
  z213 := Tryz.sizeOf219
  t232 := Tryz.underlying227
  a232 := Tryz.isAgg227
  z232 := Tryz.sizeOf227
  v232 := Tryz.zeroValue227
  t233 := Tryz.underlying228
  a233 := Tryz.isAgg228
  z233 := Tryz.sizeOf228
  v233 := Tryz.zeroValue228
  g17 := by kernel_rfl
  g18 := by kernel_rfl
  g19 := by kernel_rfl
  i0 := by kernel_rfl
  i2 := by kernel_rfl
  i3 := by kernel_rfl
  i4 := by kernel_rfl
  i5 := by kernel_rfl
  i9 := by kernel_rfl
  i20 := by kernel_rfl
  i37 := by kernel_rfl
  i46 := by kernel_rfl
  i51 := by kernel_rfl
  i53 := by kernel_rfl
  i171 := by kernel_rfl
  i173 := by kernel_rfl
  i212 := by kernel_rfl
  i232 := by kernel_rfl
  i233 := by kernel_rfl
  m17 := by kernel_rfl
  m18 := by kernel_rfl
  m19 := by kernel_rfl }
open Go.RowKit Go.Sort Go.Lib in
/-- strconv.FormatInt: "FormatInt returns the string representation of i in the given base": AT BASE 10: i's decimal numeral, for every int64. (LAID: no walk: one application.) -/
theorem Tryz.strconv_FormatInt_10 (n : Int) (h0 : -9223372036854775808 ≤ n) (h1 : n ≤ 9223372036854775807) (w : World) (htab : Lib.TabIs Tryz.prog w "internal/strconv.uint64pow10" .u64 Lib.pow10Tab) :
    Calls Tryz.prog 122 #[.int .i64 n, .int .i64 10] w fun e w' => e = .returned (.string ⟨(Lib.itoa n).toArray⟩) ∧ ∃ k os, w' = grow (w.drewN k) os := Any.strconv_FormatInt_10 Tryz.laysM173 n h0 h1 w htab
def Tryz.laysPu14_ren : Go.Shelf.Ren := ⟨fun | 14 => 85 | 16 => 127 | 17 => 128 | 19 => 178 | 20 => 179 | 21 => 180 | 22 => 181 | 23 => 182 | 24 => 183 | 25 => 207 | 27 => 86 | 26 => 208 | 28 => 129 | 29 => 175 | 30 => 203 | 31 => 204 | 32 => 205 | 33 => 206 | 35 => 168 | 34 => 215 | 36 => 216 | 37 => 217 | 38 => 218 | 39 => 221 | 40 => 222 | n => n, fun | 9 => 9 | 3 => 3 | 22 => 115 | 24 => 91 | 25 => 123 | 4 => 4 | 34 => 186 | 5 => 5 | 36 => 105 | 37 => 42 | 0 => 0 | 39 => 188 | 21 => 21 | 44 => 208 | 47 => 139 | 50 => 222 | 48 => 220 | 2 => 2 | 52 => 203 | 55 => 205 | 59 => 218 | 60 => 146 | 20 => 20 | 61 => 219 | 65 => 227 | 66 => 228 | 67 => 94 | n => n, fun | 0 => 3 | 1 => 4 | 2 => 5 | 3 => 8 | 4 => 9 | n => n⟩
theorem Tryz.laysPu14 : Go.Proofs.LaysPu.n14 Tryz.prog Tryz.laysPu14_ren := {
  mixed := by kernel_rfl
  f14 := Tryz.func85.trans (congrArg some (by kernel_rfl))
  f16 := Tryz.func127.trans (congrArg some (by kernel_rfl))
  f17 := Tryz.func128.trans (congrArg some (by kernel_rfl))
  f19 := Tryz.func178.trans (congrArg some (by kernel_rfl))
  f20 := Tryz.func179.trans (congrArg some (by kernel_rfl))
  f21 := Tryz.func180.trans (congrArg some (by kernel_rfl))
  f22 := Tryz.func181.trans (congrArg some (by kernel_rfl))
  f23 := Tryz.func182.trans (congrArg some (by kernel_rfl))
  f24 := Tryz.func183.trans (congrArg some (by kernel_rfl))
  f25 := Tryz.func207.trans (congrArg some (by kernel_rfl))
  f26 := Tryz.func208.trans (congrArg some (by kernel_rfl))
  f27 := Tryz.func86.trans (congrArg some (by kernel_rfl))
  f28 := Tryz.func129.trans (congrArg some (by kernel_rfl))
  f29 := Tryz.func175.trans (congrArg some (by kernel_rfl))
  f30 := Tryz.func203.trans (congrArg some (by kernel_rfl))
  f31 := Tryz.func204.trans (congrArg some (by kernel_rfl))
  f32 := Tryz.func205.trans (congrArg some (by kernel_rfl))
  f33 := Tryz.func206.trans (congrArg some (by kernel_rfl))
  f34 := Tryz.func215.trans (congrArg some (by kernel_rfl))
  f35 := Tryz.func168.trans (congrArg some (by kernel_rfl))
  f36 := Tryz.func216.trans (congrArg some (by kernel_rfl))
  f37 := Tryz.func217.trans (congrArg some (by kernel_rfl))
  f38 := Tryz.func218.trans (congrArg some (by kernel_rfl))
  f39 := Tryz.func221.trans (congrArg some (by kernel_rfl))
  f40 := Tryz.func222.trans (congrArg some (by kernel_rfl))
  t0 := Tryz.underlying0
  a0 := Tryz.isAgg0
  z0 := Tryz.sizeOf0
  v0 := Tryz.zeroValue0
  i0 := by kernel_rfl
  t2 := Tryz.underlying2
  a2 := Tryz.isAgg2
  z2 := Tryz.sizeOf2
  v2 := Tryz.zeroValue2
  i2 := by kernel_rfl
  t3 := Tryz.underlying3
  a3 := Tryz.isAgg3
  z3 := Tryz.sizeOf3
  v3 := Tryz.zeroValue3
  i3 := by kernel_rfl
  t4 := Tryz.underlying4
  a4 := Tryz.isAgg4
  z4 := Tryz.sizeOf4
  v4 := Tryz.zeroValue4
  i4 := by kernel_rfl
  t5 := Tryz.underlying5
  a5 := Tryz.isAgg5
  z5 := Tryz.sizeOf5
  v5 := Tryz.zeroValue5
  i5 := by kernel_rfl
  t9 := Tryz.underlying9
  a9 := Tryz.isAgg9
  z9 := Tryz.sizeOf9
  v9 := Tryz.zeroValue9
  i9 := by kernel_rfl
  t20 := Tryz.underlying20
  a20 := Tryz.isAgg20
  z20 := Tryz.sizeOf20
  v20 := Tryz.zeroValue20
  i20 := by kernel_rfl
  t21 := Tryz.underlying21
  a21 := Tryz.isAgg21
  z21 := Tryz.sizeOf21
  v21 := Tryz.zeroValue21
  i21 := by kernel_rfl
  t22 := Tryz.underlying115
  a22 := Tryz.isAgg115
  z22 := Tryz.sizeOf115
  v22 := Tryz.zeroValue115
  i22 := by kernel_rfl
  t24 := Tryz.underlying91
  a24 := Tryz.isAgg91
  z24 := Tryz.sizeOf91
  v24 := Tryz.zeroValue91
  i24 := by kernel_rfl
  t25 := Tryz.underlying123
  a25 := Tryz.isAgg123
  z25 := Tryz.sizeOf123
  v25 := Tryz.zeroValue123
  i25 := by kernel_rfl
  t34 := Tryz.underlying186
  a34 := Tryz.isAgg186
  z34 := Tryz.sizeOf186
  v34 := Tryz.zeroValue186
  i34 := by kernel_rfl
  c34 := by kernel_rfl
  t36 := Tryz.underlying105
  a36 := Tryz.isAgg105
  z36 := Tryz.sizeOf105
  v36 := Tryz.zeroValue105
  i36 := by kernel_rfl
  t37 := Tryz.underlying42
  a37 := Tryz.isAgg42
  z37 := Tryz.sizeOf42
  v37 := Tryz.zeroValue42
  i37 := by kernel_rfl
  t39 := Tryz.underlying188
  a39 := Tryz.isAgg188
  z39 := Tryz.sizeOf188
  v39 := Tryz.zeroValue188
  i39 := by kernel_rfl
  t44 := Tryz.underlying208
  a44 := Tryz.isAgg208
  z44 := Tryz.sizeOf208
  v44 := Tryz.zeroValue208
  i44 := by kernel_rfl
  t47 := Tryz.underlying139
  a47 := Tryz.isAgg139
  z47 := Tryz.sizeOf139
  v47 := Tryz.zeroValue139
  i47 := by kernel_rfl
  t48 := Tryz.underlying220
  a48 := Tryz.isAgg220
  z48 := Tryz.sizeOf220
  v48 := Tryz.zeroValue220
  i48 := by kernel_rfl
  t50 := Tryz.underlying222
  a50 := Tryz.isAgg222
  z50 := Tryz.sizeOf222
  v50 := Tryz.zeroValue222
  i50 := by kernel_rfl
  t52 := Tryz.underlying203
  a52 := Tryz.isAgg203
  z52 := Tryz.sizeOf203
  v52 := Tryz.zeroValue203
  i52 := by kernel_rfl
  t55 := Tryz.underlying205
  a55 := Tryz.isAgg205
  z55 := Tryz.sizeOf205
  v55 := Tryz.zeroValue205
  i55 := by kernel_rfl
  t59 := Tryz.underlying218
  a59 := Tryz.isAgg218
  z59 := Tryz.sizeOf218
  v59 := Tryz.zeroValue218
  i59 := by kernel_rfl
  t60 := Tryz.underlying146
  a60 := Tryz.isAgg146
  z60 := Tryz.sizeOf146
  v60 := Tryz.zeroValue146
  i60 := by kernel_rfl
  t61 := Tryz.underlying219
  a61 := Tryz.isAgg219
  z61 := Tryz.sizeOf219
  t65 := Tryz.underlying227
  a65 := Tryz.isAgg227
  z65 := Tryz.sizeOf227
  v65 := Tryz.zeroValue227
  i65 := by kernel_rfl
  t66 := Tryz.underlying228
  a66 := Tryz.isAgg228
  z66 := Tryz.sizeOf228
  v66 := Tryz.zeroValue228
  i66 := by kernel_rfl
  t67 := Tryz.underlying94
  a67 := Tryz.isAgg94
  z67 := Tryz.sizeOf94
  v67 := Tryz.zeroValue94
  i67 := by kernel_rfl
  g0 := by kernel_rfl
  m0 := by kernel_rfl
  g1 := by kernel_rfl
  m1 := by kernel_rfl
  g2 := by kernel_rfl
  m2 := by kernel_rfl
  g3 := by kernel_rfl
  m3 := by kernel_rfl
  g4 := by kernel_rfl
  m4 := by kernel_rfl }
open Go.RowKit in
/-- strconv.ParseUint(s, 10, 64), AT EVERY STRING THAT SPELLS A uint64 ('Lib.parseUintB 64 s.data.toList = .ok u'): u, AND NO ERROR. (LAID: no walk: one application.) -/
theorem Tryz.strconv_ParseUint_10_at64_ok (s : ByteArray) (hmax : s.size ≤ 9223372036854775806) (u : Nat) (h : Lib.parseUintB 64 s.data.toList = .ok u) (w : World) :
    Calls Tryz.prog 85 #[.string s, .int .i64 10, .int .i64 64] w fun e w' => e = .returned (.tuple #[.int .u64 u, .nilIface]) ∧ (w' = w ∨ w' = Lib.bytesWorld w 5 s) := Any.strconv_ParseUint_10_at64_ok Tryz.laysPu14 s hmax u h w
open Go.RowKit in
/-- strconv.ParseUint(s, 10, 16), AT EVERY STRING THAT SPELLS A uint16 ('Lib.parseUintB 16 s.data.toList = .ok u'): u, AND NO ERROR. (LAID: no walk: one application.) -/
theorem Tryz.strconv_ParseUint_10_at16_ok (s : ByteArray) (hmax : s.size ≤ 9223372036854775806) (u : Nat) (h : Lib.parseUintB 16 s.data.toList = .ok u) (w : World) :
    Calls Tryz.prog 85 #[.string s, .int .i64 10, .int .i64 16] w fun e w' => e = .returned (.tuple #[.int .u64 u, .nilIface]) ∧ (w' = w ∨ w' = Lib.bytesWorld w 5 s) := Any.strconv_ParseUint_10_at16_ok Tryz.laysPu14 s hmax u h w
open Go.RowKit in
/-- strconv.ParseUint(s, 10, 16), AT EVERY STRING THAT IS NO ROW OF DECIMAL DIGITS (a sign is a fault): 0, AND AN ERROR THAT IS NOT nil: a *NumError in a new block N: {Func: "ParseUint", Num: s's bytes, Err: what the variable ErrSyntax holds}. Of what was there nothing has turned. (LAID: no walk: one application.) -/
theorem Tryz.strconv_ParseUint_10_at16_syntax (s : ByteArray) (hlim : s.size ≤ 281474976710656) (h : Lib.parseUintB 16 s.data.toList = Lib.parseUintB 16 []) (ev : Value) (w : World) (hv : w.cell? ⟨3, 0, none⟩ = some ev) (hev : ev = .nilIface ∨ ∃ te pe, ev = .iface te pe) :
    Calls Tryz.prog 85 #[.string s, .int .i64 10, .int .i64 16] w fun e w' => ∃ N, e = .returned (.tuple #[.int .u64 0, .iface 188 (.pointer (some ⟨N, 0, none⟩))]) ∧ w.heap.size ≤ N ∧ w'.heap[N]? = some (.cells #[.string ⟨#[80, 97, 114, 115, 101, 85, 105, 110, 116]⟩, .string s, ev] 208 (0, 0)) ∧ Below w.heap.size w w' := Any.strconv_ParseUint_10_at16_syntax Tryz.laysPu14 s hlim h ev w hv hev
open Go.RowKit in
/-- strconv.ParseUint(s, 10, 16), AT EVERY NUMERAL THAT NO uint16 HOLDS: THE GREATEST uint16, AND AN ERROR THAT IS NOT nil: a *NumError in a new block N: {Func: "ParseUint", Num: s's bytes, Err: what the variable ErrRange holds}. Of what was there nothing has turned. (LAID: no walk: one application.) -/
theorem Tryz.strconv_ParseUint_10_at16_range (s : ByteArray) (hlim : s.size ≤ 281474976710656) (h : Lib.parseUintB 16 s.data.toList = .range) (ev : Value) (w : World) (hv : w.cell? ⟨4, 0, none⟩ = some ev) (hev : ev = .nilIface ∨ ∃ te pe, ev = .iface te pe) :
    Calls Tryz.prog 85 #[.string s, .int .i64 10, .int .i64 16] w fun e w' => ∃ N, e = .returned (.tuple #[.int .u64 65535, .iface 188 (.pointer (some ⟨N, 0, none⟩))]) ∧ w.heap.size ≤ N ∧ w'.heap[N]? = some (.cells #[.string ⟨#[80, 97, 114, 115, 101, 85, 105, 110, 116]⟩, .string s, ev] 208 (0, 0)) ∧ Below w.heap.size w w' := Any.strconv_ParseUint_10_at16_range Tryz.laysPu14 s hlim h ev w hv hev
def Tryz.lays219_ren : Go.Shelf.Ren := ⟨fun | 219 => 158 | 217 => 193 | 225 => 194 | 224 => 195 | 267 => 196 | 266 => 212 | 314 => 213 | n => n, fun | 9 => 9 | 3 => 3 | 4 => 4 | 5 => 5 | 46 => 105 | 146 => 147 | 51 => 146 | n => n, fun | 1 => 2 | n => n⟩
theorem Tryz.lays219 : Go.Proofs.Lays.n219 Tryz.prog Tryz.lays219_ren := {
  mixed := by kernel_rfl
  f217 := Tryz.func193.trans (congrArg some (by kernel_rfl))
  f219 := Tryz.func158.trans (congrArg some (by kernel_rfl))
  f224 := Tryz.func195.trans (congrArg some (by kernel_rfl))
  f225 := Tryz.func194.trans (congrArg some (by kernel_rfl))
  f266 := Tryz.func212.trans (congrArg some (by kernel_rfl))
  f267 := Tryz.func196.trans (congrArg some (by kernel_rfl))
  f314 := Tryz.func213.trans (congrArg some (by kernel_rfl))
  t3 := Tryz.underlying3
  a3 := Tryz.isAgg3
  z3 := Tryz.sizeOf3
  v3 := Tryz.zeroValue3
  t4 := Tryz.underlying4
  a4 := Tryz.isAgg4
  z4 := Tryz.sizeOf4
  v4 := Tryz.zeroValue4
  t5 := Tryz.underlying5
  a5 := Tryz.isAgg5
  z5 := Tryz.sizeOf5
  v5 := Tryz.zeroValue5
  t9 := Tryz.underlying9
  a9 := Tryz.isAgg9
  z9 := Tryz.sizeOf9
  v9 := Tryz.zeroValue9
  t46 := Tryz.underlying105
  a46 := Tryz.isAgg105
  z46 := Tryz.sizeOf105
  v46 := Tryz.zeroValue105
  t51 := Tryz.underlying146
  a51 := Tryz.isAgg146
  z51 := Tryz.sizeOf146
  v51 := Tryz.zeroValue146
  t146 := Tryz.underlying147
  a146 := Tryz.isAgg147
  z146 := Tryz.sizeOf147
  v146 := Tryz.zeroValue147
  g1 := by kernel_rfl }
open Go.RowKit Go.Lib in
/-- internal/stringslite.Index (what strings.Index calls) AT A substr OF ONE BYTE c: IT RETURNS 'Lib.indexByte s c'; the world is as it was. (LAID: no walk: one application.) -/
theorem Tryz.stringslite_Index_one (s : ByteArray) (c : UInt8) (w : World) :
    Calls Tryz.prog 158 #[.string s, .string ⟨#[c]⟩] w fun e w' => e = .returned (.int .i64 (Lib.indexByte s.data.toList c)) ∧ w' = w := Any.stringslite_Index_one Tryz.lays219 s c w
open Go.RowKit Go.Lib in
def Tryz.lays145_ren : Go.Shelf.Ren := ⟨fun | 145 => 64 | 220 => 110 | 219 => 158 | 217 => 193 | 225 => 194 | 224 => 195 | 267 => 196 | 266 => 212 | 314 => 213 | n => n, fun | 9 => 9 | 4 => 4 | 59 => 95 | 3 => 3 | 5 => 5 | 46 => 105 | 146 => 147 | 51 => 146 | n => n, fun | 1 => 2 | n => n⟩
theorem Tryz.lays145 : Go.Proofs.Lays.n145 Tryz.prog Tryz.lays145_ren := {
  mixed := by kernel_rfl
  f145 := Tryz.func64.trans (congrArg some (by kernel_rfl))
  f217 := Tryz.func193.trans (congrArg some (by kernel_rfl))
  f219 := Tryz.func158.trans (congrArg some (by kernel_rfl))
  f220 := Tryz.func110.trans (congrArg some (by kernel_rfl))
  f224 := Tryz.func195.trans (congrArg some (by kernel_rfl))
  f225 := Tryz.func194.trans (congrArg some (by kernel_rfl))
  f266 := Tryz.func212.trans (congrArg some (by kernel_rfl))
  f267 := Tryz.func196.trans (congrArg some (by kernel_rfl))
  f314 := Tryz.func213.trans (congrArg some (by kernel_rfl))
  t3 := Tryz.underlying3
  a3 := Tryz.isAgg3
  z3 := Tryz.sizeOf3
  v3 := Tryz.zeroValue3
  t4 := Tryz.underlying4
  a4 := Tryz.isAgg4
  z4 := Tryz.sizeOf4
  v4 := Tryz.zeroValue4
  t5 := Tryz.underlying5
  a5 := Tryz.isAgg5
  z5 := Tryz.sizeOf5
  v5 := Tryz.zeroValue5
  t9 := Tryz.underlying9
  a9 := Tryz.isAgg9
  z9 := Tryz.sizeOf9
  v9 := Tryz.zeroValue9
  t46 := Tryz.underlying105
  a46 := Tryz.isAgg105
  z46 := Tryz.sizeOf105
  v46 := Tryz.zeroValue105
  t51 := Tryz.underlying146
  a51 := Tryz.isAgg146
  z51 := Tryz.sizeOf146
  v51 := Tryz.zeroValue146
  t59 := Tryz.underlying95
  a59 := Tryz.isAgg95
  z59 := Tryz.sizeOf95
  v59 := Tryz.zeroValue95
  t146 := Tryz.underlying147
  a146 := Tryz.isAgg147
  z146 := Tryz.sizeOf147
  v146 := Tryz.zeroValue147
  g1 := by kernel_rfl }
open Go.RowKit Go.Lib in
/-- strings.Cut: "Cut slices s around the first instance of sep, returning the text before and after sep. The found result reports whether sep appears in s. If sep does not appear in s, cut returns s, "", false.": IT RETURNS 'Lib.cut s sep'; the world is as it was but for the count of draws. (LAID: no walk: one application.) -/
theorem Tryz.strings_Cut (s sep : ByteArray) (m : Int) (w : World) (hs : s.size < 4294967281) (hm : w.cell? ⟨2, 0, none⟩ = some (.int .i64 m)) :
    Calls Tryz.prog 64 #[.string s, .string sep] w fun e w' => e = .returned (.tuple #[.string ⟨(Lib.cut s.data.toList sep.data.toList).1.toArray⟩, .string ⟨(Lib.cut s.data.toList sep.data.toList).2.1.toArray⟩, .bool (Lib.cut s.data.toList sep.data.toList).2.2]) ∧ ∃ n, w' = w.drewN n := Any.strings_Cut Tryz.lays145 s sep m w hs hm
def Tryz.lays207_ren : Go.Shelf.Ren := ⟨fun | 207 => 202 | n => n, fun | 9 => 9 | 4 => 4 | 3 => 3 | n => n, fun | n => n⟩
theorem Tryz.lays207 : Go.Proofs.Lays.n207 Tryz.prog Tryz.lays207_ren := {
  mixed := by kernel_rfl
  f207 := Tryz.func202.trans (congrArg some (by kernel_rfl))
  t3 := Tryz.underlying3
  a3 := Tryz.isAgg3
  z3 := Tryz.sizeOf3
  v3 := Tryz.zeroValue3
  t4 := Tryz.underlying4
  a4 := Tryz.isAgg4
  z4 := Tryz.sizeOf4
  v4 := Tryz.zeroValue4
  t9 := Tryz.underlying9
  a9 := Tryz.isAgg9
  z9 := Tryz.sizeOf9
  v9 := Tryz.zeroValue9 }
open Go.RowKit Go.Lib in
/-- internal/stringslite.HasSuffix (what strings.HasSuffix calls). (LAID: no walk: one application.) -/
theorem Tryz.stringslite_HasSuffix (s p : ByteArray) (w : World) (hs : s.size ≤ 9223372036854775807) :
    Calls Tryz.prog 202 #[.string s, .string p] w fun e w' => e = .returned (.bool (Lib.hasSuffix s.data.toList p.data.toList)) ∧ w' = w := Any.stringslite_HasSuffix Tryz.lays207 s p w hs
def Tryz.lays264_ren : Go.Shelf.Ren := ⟨fun | 264 => 77 | n => n, fun | 53 => 115 | 46 => 105 | n => n, fun | n => n⟩
theorem Tryz.lays264 : Go.Proofs.Lays.n264 Tryz.prog Tryz.lays264_ren := {
  mixed := by kernel_rfl
  f264 := Tryz.func77.trans (congrArg some (by kernel_rfl))
  t46 := Tryz.underlying105
  a46 := Tryz.isAgg105
  z46 := Tryz.sizeOf105
  v46 := Tryz.zeroValue105
  t53 := Tryz.underlying115
  a53 := Tryz.isAgg115
  z53 := Tryz.sizeOf115
  v53 := Tryz.zeroValue115 }
open Go.RowKit Go.Lib in
theorem Tryz.bits_Mul64 (x y : Nat) (hx : x < 18446744073709551616) (hy : y < 18446744073709551616) (w : World) :
    Calls Tryz.prog 77 #[.int .u64 x, .int .u64 y] w fun e w' => e = .returned (.tuple #[.int .u64 ((x * y / 18446744073709551616 : Nat) : Int), .int .u64 ((x * y % 18446744073709551616 : Nat) : Int)]) ∧ w' = w := Any.bits_Mul64 Tryz.lays264 x y hx hy w
def Tryz.lays105_ren : Go.Shelf.Ren := ⟨fun | 105 => 33 | 212 => 70 | 99 => 71 | 165 => 72 | 166 => 62 | 170 => 73 | 169 => 63 | 263 => 119 | 264 => 77 | 206 => 120 | 240 => 109 | 241 => 121 | 276 => 157 | 277 => 174 | n => n, fun | 9 => 9 | 3 => 3 | 4 => 4 | 20 => 20 | 0 => 0 | 46 => 105 | 109 => 106 | 5 => 5 | 72 => 89 | 76 => 92 | 51 => 146 | 146 => 147 | 53 => 115 | 148 => 116 | 70 => 87 | 37 => 42 | 75 => 91 | 127 => 139 | 164 => 169 | 80 => 94 | n => n, fun | n => n⟩
theorem Tryz.lays105 : Go.Proofs.Lays.n105 Tryz.prog Tryz.lays105_ren := {
  mixed := by kernel_rfl
  f99 := Tryz.func71.trans (congrArg some (by kernel_rfl))
  f105 := Tryz.func33.trans (congrArg some (by kernel_rfl))
  f165 := Tryz.func72.trans (congrArg some (by kernel_rfl))
  f166 := Tryz.func62.trans (congrArg some (by kernel_rfl))
  f169 := Tryz.func63.trans (congrArg some (by kernel_rfl))
  f170 := Tryz.func73.trans (congrArg some (by kernel_rfl))
  f206 := Tryz.func120.trans (congrArg some (by kernel_rfl))
  f212 := Tryz.func70.trans (congrArg some (by kernel_rfl))
  f240 := Tryz.func109.trans (congrArg some (by kernel_rfl))
  f241 := Tryz.func121.trans (congrArg some (by kernel_rfl))
  f263 := Tryz.func119.trans (congrArg some (by kernel_rfl))
  f264 := Tryz.func77.trans (congrArg some (by kernel_rfl))
  f276 := Tryz.func157.trans (congrArg some (by kernel_rfl))
  f277 := Tryz.func174.trans (congrArg some (by kernel_rfl))
  t0 := Tryz.underlying0
  a0 := Tryz.isAgg0
  z0 := Tryz.sizeOf0
  v0 := Tryz.zeroValue0
  t3 := Tryz.underlying3
  a3 := Tryz.isAgg3
  z3 := Tryz.sizeOf3
  v3 := Tryz.zeroValue3
  t4 := Tryz.underlying4
  a4 := Tryz.isAgg4
  z4 := Tryz.sizeOf4
  v4 := Tryz.zeroValue4
  t5 := Tryz.underlying5
  a5 := Tryz.isAgg5
  z5 := Tryz.sizeOf5
  v5 := Tryz.zeroValue5
  t9 := Tryz.underlying9
  a9 := Tryz.isAgg9
  z9 := Tryz.sizeOf9
  v9 := Tryz.zeroValue9
  t20 := Tryz.underlying20
  a20 := Tryz.isAgg20
  z20 := Tryz.sizeOf20
  v20 := Tryz.zeroValue20
  t37 := Tryz.underlying42
  a37 := Tryz.isAgg42
  z37 := Tryz.sizeOf42
  v37 := Tryz.zeroValue42
  t46 := Tryz.underlying105
  a46 := Tryz.isAgg105
  z46 := Tryz.sizeOf105
  v46 := Tryz.zeroValue105
  t51 := Tryz.underlying146
  a51 := Tryz.isAgg146
  z51 := Tryz.sizeOf146
  v51 := Tryz.zeroValue146
  t53 := Tryz.underlying115
  a53 := Tryz.isAgg115
  z53 := Tryz.sizeOf115
  v53 := Tryz.zeroValue115
  t70 := Tryz.underlying87
  a70 := Tryz.isAgg87
  z70 := Tryz.sizeOf87
  v70 := Tryz.zeroValue87
  t72 := Tryz.underlying89
  a72 := Tryz.isAgg89
  z72 := Tryz.sizeOf89
  v72 := Tryz.zeroValue89
  t75 := Tryz.underlying91
  a75 := Tryz.isAgg91
  z75 := Tryz.sizeOf91
  v75 := Tryz.zeroValue91
  t76 := Tryz.underlying92
  a76 := Tryz.isAgg92
  z76 := Tryz.sizeOf92
  v76 := Tryz.zeroValue92
  t109 := Tryz.underlying106
  a109 := Tryz.isAgg106
  z109 := Tryz.sizeOf106
  v109 := Tryz.zeroValue106
  t127 := Tryz.underlying139
  a127 := Tryz.isAgg139
  z127 := Tryz.sizeOf139
  v127 := Tryz.zeroValue139
  t146 := Tryz.underlying147
  a146 := Tryz.isAgg147
  z146 := Tryz.sizeOf147
  v146 := Tryz.zeroValue147
  t148 := Tryz.underlying116
  a148 := Tryz.isAgg116
  z148 := Tryz.sizeOf116
  v148 := Tryz.zeroValue116
  t164 := Tryz.underlying169
  a164 := Tryz.isAgg169
  z164 := Tryz.sizeOf169
  v164 := Tryz.zeroValue169 }
theorem Tryz.Builder_Extra_105 : Builder.Extra Tryz.prog Tryz.lays105_ren := {
  sizeBuilder := by kernel_rfl
  liesBuilder := by kernel_rfl
  t5 := Tryz.underlying5
  a5 := Tryz.isAgg5
  z5 := Tryz.sizeOf5
  v5 := Tryz.zeroValue5
  infoByte := by kernel_rfl
  cellsByte := by kernel_rfl
  sizeByte := by kernel_rfl
  neB5 := by decide }
open Go.RowKit Go.Lib in
/-- **strings.Repeat: count ≥ 0, the result within one allocation: count copies of s.** (LAID: no walk: one application.) -/
theorem Tryz.strings_Repeat (s : ByteArray) (c : Nat) (w : World) (hc : c ≤ 9223372036854775807) (hlen : s.size * c ≤ 140737488355328) :
    Calls Tryz.prog 33 #[.string s, .int .i64 c] w fun e w' => e = .returned (.string ⟨(Lib.repeatL s.data.toList c).toArray⟩) ∧ Below w.heap.size w w' := Any.strings_Repeat Tryz.lays105 Tryz.Builder_Extra_105 s c w hc hlen
end Go.Proofs
/-
  Texts of numbers: pad of package moment, digitsOf of the reference, and the digits that both write.
-/
namespace Go.Proofs.YtgodhaphbgllhaaGreatDoor
namespace At
open Go.RowKit Lw Ap

theorem gPow : Tryz.prog.globalNamed "internal/strconv.uint64pow10" = some 5 := by kernel_rfl
/-- The library's table of powers of ten holds what its initialiser lays. -/
def Tab (w : World) : Prop := Lib.TabIs Tryz.prog w "internal/strconv.uint64pow10" .u64 Lib.pow10Tab
theorem Tab.below {w w' : World} (h : Tab w) (hb : Below w.heap.size w w') : Tab w' := Joins.tab_stays gPow h hb (Nat.le_refl _)

/-- A number with at least so many digits. -/
def padL (n : Int) (d : Nat) : List UInt8 := Lib.repeatL [48] (d - (Lib.itoa n).length) ++ Lib.itoa n
theorem below_grow (w : World) (k : Nat) (os : Array Obj) : Below w.heap.size w (Go.Sort.grow (w.drewN k) os) :=
  ⟨rfl, rfl, rfl, by simp [Go.Sort.grow, World.drewN], fun j hj => by
    show (w.heap ++ os)[j]? = w.heap[j]?
    rw [Array.getElem?_append_left hj]⟩
theorem rep_len (k : Nat) : (Lib.repeatL [48] k).length = k := by
  induction k with
  | zero => rfl
  | succ k ih => simp_all [Lib.repeatL]
theorem str_app (a b : List UInt8) : ((⟨a.toArray⟩ : ByteArray) ++ ⟨b.toArray⟩) = ⟨(a ++ b).toArray⟩ := by
  apply ByteArray.ext
  simp [ByteArray.data_append]

set_option maxRecDepth 100000 in
theorem pad_any (n : Int) (d : Nat) (w : World) (hT : Tab w) (h0 : 0 ≤ n) (h1 : n ≤ 1000000000000000000) (hd : d ≤ 20) :
    Calls Tryz.prog 76 #[.int .i64 n, .int .i64 d] w fun e w' => e = .returned (.string ⟨(padL n d).toArray⟩) ∧ Below w.heap.size w w' := by
  have hl := Lib.itoa_length_le n (by omega) (by omega)
  have F := Lib.hid (Tryz.strconv_FormatInt_10 n (by omega) (by omega) w hT)
  have hp : padL n d = Lib.repeatL [48] (d - (Lib.itoa n).length) ++ Lib.itoa n := rfl
  have hp := Lib.hid hp
  have sz : (⟨(Lib.itoa n).toArray⟩ : ByteArray).size = (Lib.itoa n).length := by simp [ByteArray.size]
  generalize Lib.itoa n = L at *
  go_enter Tryz.func76, Tryz.ntmps76
  go_wp2_with fail
  go_at_call 122
  refine F.out.mono ?_
  rintro e w1 ⟨rfl, k, os, hw⟩
  have hB1 : Below w.heap.size w w1 := by rw [hw]; exact below_grow w k os
  clear F hw hT
  have em : max (0 : Int) (↑d - ↑L.length) = ((d - L.length : Nat) : Int) := by omega
  have R := Lib.hid (Tryz.strings_Repeat ⟨#[48]⟩ (d - L.length) w1 (by omega) (by show 1 * _ ≤ _; omega))
  have rl := rep_len (d - L.length)
  have ls : (⟨#[48]⟩ : ByteArray).data.toList = [48] := rfl
  rw [ls] at R
  go_wp2_with fail
  go_at_call 33
  refine R.out.mono ?_
  rintro e w2 ⟨rfl, hB2⟩
  have hB := below_then hB1 hB2
  have sa := str_app (Lib.repeatL [48] (d - L.length)) L
  generalize Lib.repeatL [48] (d - L.length) = Q at *
  clear R em ls hB1 hB2
  go_wp2_with fail
  go_ret
  exact ⟨by rw [hp.out]; rfl, hB⟩
theorem u8_of (n : Nat) (h : n < 10) : (((UInt8.ofNat (48 + n)).toNat : Nat) : Int) = 48 + n := by
  rw [UInt8.toNat_ofNat']
  omega
theorem dd_num (u : Nat) : numL (Lib.decDigits u) = u ∧ allD (Lib.decDigits u) := by
  induction u using Nat.strongRecOn with
  | _ u ih =>
    by_cases h : u < 10
    · rw [Lib.decDigits_one h]
      have e := u8_of u h
      refine ⟨by unfold numL; simp only [List.foldl_cons, List.foldl_nil]; omega, fun c hc => ?_⟩
      rw [List.mem_singleton.1 hc]
      omega
    · rw [Lib.decDigits, dif_neg h]
      obtain ⟨h1, h2⟩ := ih (u / 10) (by omega)
      have e := u8_of (u % 10) (Nat.mod_lt _ (by omega))
      exact ⟨by rw [numL_snoc, h1]; omega, allD_snoc h2 (by omega) (by omega)⟩
theorem itoa_num (r : Nat) : numL (Lib.itoa (r : Int)) = r ∧ allD (Lib.itoa (r : Int)) := by
  unfold Lib.itoa
  rw [if_neg (by omega), Int.toNat_natCast]
  exact dd_num r
theorem rep_num (k : Nat) : numL (Lib.repeatL [48] k) = 0 ∧ allD (Lib.repeatL [48] k) := by
  induction k with
  | zero => exact ⟨rfl, fun c hc => by simp [Lib.repeatL] at hc⟩
  | succ k ih =>
    have e : Lib.repeatL [48] (k + 1) = 48 :: Lib.repeatL [48] k := rfl
    rw [e]
    refine ⟨?_, fun c hc => ?_⟩
    · have := ih.1
      unfold numL at this ⊢
      rw [List.foldl_cons]
      exact this
    · rcases List.mem_cons.1 hc with rfl | g
      · decide
      · exact ih.2 c g
theorem pad_num (r d : Nat) : numV (padL (r : Int) d) = r := by
  have h1 := itoa_num r
  have h2 := rep_num (d - (Lib.itoa (r : Int)).length)
  have hA : allD (padL (r : Int) d) := fun c hc => by
    rcases List.mem_append.1 hc with g | g
    · exact h2.2 c g
    · exact h1.2 c g
  unfold numV
  rw [if_pos hA]
  unfold padL numL
  rw [List.foldl_append]
  have e2 := h2.1
  have e1 := h1.1
  unfold numL at e1 e2
  rw [e2, e1]
theorem nd_le : ∀ (d r : Nat), r < 10 ^ (d + 1) → Lib.nDigits r ≤ d + 1
  | 0, r, h => by rw [Lib.nDigits_small (by simpa using h)]; exact Nat.le_refl _
  | d + 1, r, h => by
    by_cases g : r < 10
    · rw [Lib.nDigits_small g]; omega
    · rw [Lib.nDigits_big g]
      have := nd_le d (r / 10) (by rw [Nat.pow_succ] at h; omega)
      omega
theorem pad_size (r d : Nat) (hd : 1 ≤ d) (h : r < 10 ^ d) : (padL (r : Int) d).length = d := by
  obtain ⟨k, rfl⟩ : ∃ k, d = k + 1 := ⟨d - 1, by omega⟩
  have h1 := nd_le k r h
  have hl : (Lib.itoa (r : Int)).length = Lib.nDigits r := by
    unfold Lib.itoa
    rw [if_neg (by omega), Int.toNat_natCast, Lib.decDigits_length]
  unfold padL
  rw [List.length_append, rep_len, hl]
  omega
/-- The digit of a number below ten. -/
def dg (m : Nat) : UInt8 := UInt8.ofNat (48 + m)
theorem dg_of (n : Nat) (h : n < 10) : (((dg n).toNat : Nat) : Int) = 48 + n := u8_of n h
/-- The last digits of a number. -/
def decL : Nat → Nat → List UInt8
  | _, 0 => []
  | n, k + 1 => decL (n / 10) k ++ [dg (n % 10)]
theorem decL_len : ∀ k n, (decL n k).length = k
  | 0, _ => rfl
  | k + 1, n => by rw [decL, List.length_append, decL_len k]; rfl
theorem decL_num : ∀ k n, numL (decL n k) = ((n % 10 ^ k : Nat) : Int) ∧ allD (decL n k)
  | 0, n => ⟨by simp [decL, numL, Nat.mod_one], fun c hc => by simp [decL] at hc⟩
  | k + 1, n => by
    obtain ⟨h1, h2⟩ := decL_num k (n / 10)
    have e := dg_of (n % 10) (Nat.mod_lt _ (by omega))
    refine ⟨?_, allD_snoc h2 (by omega) (by omega)⟩
    rw [decL, numL_snoc, h1, Nat.pow_succ, Nat.mul_comm (10 ^ k) 10, Nat.mod_mul]
    omega
theorem dec_cons : ∀ k n, decL n (k + 1) = dg (n / 10 ^ k % 10) :: decL n k
  | 0, n => by simp [decL]
  | k + 1, n => by
    have ih := dec_cons k (n / 10)
    rw [decL, ih, decL, List.cons_append, Nat.div_div_eq_div_mul, Nat.pow_succ, Nat.mul_comm (10 ^ k) 10]
theorem num_inj : ∀ (k : Nat) (a b : List UInt8), a.length = k → b.length = k → allD a → allD b → numL a = numL b → a = b
  | 0, a, b, ha, hb, _, _, _ => by rw [List.length_eq_zero_iff.1 ha, List.length_eq_zero_iff.1 hb]
  | k + 1, a, b, ha, hb, da, db, hn => by
    obtain ⟨a', x, rfl⟩ : ∃ a' x, a = a' ++ [x] := ⟨a.dropLast, a.getLast (by intro h; rw [h] at ha; simp at ha), (List.dropLast_concat_getLast _).symm⟩
    obtain ⟨b', y, rfl⟩ : ∃ b' y, b = b' ++ [y] := ⟨b.dropLast, b.getLast (by intro h; rw [h] at hb; simp at hb), (List.dropLast_concat_getLast _).symm⟩
    rw [numL_snoc, numL_snoc] at hn
    have hx := da x (List.mem_append_right _ (List.mem_singleton.2 rfl))
    have hy := db y (List.mem_append_right _ (List.mem_singleton.2 rfl))
    have e : numL a' = numL b' := by omega
    have e2 : x = y := by
      apply UInt8.toNat_inj.1
      omega
    rw [num_inj k a' b' (by simpa using ha) (by simpa using hb) (fun c hc => da c (List.mem_append_left _ hc)) (fun c hc => db c (List.mem_append_left _ hc)) e, e2]
theorem pad_all (r d : Nat) : allD (padL (r : Int) d) := fun c hc => by
  rcases List.mem_append.1 hc with g | g
  · exact (rep_num (d - (Lib.itoa (r : Int)).length)).2 c g
  · exact (itoa_num r).2 c g
theorem pad_dec (r d : Nat) (hd : 1 ≤ d) (h : r < 10 ^ d) : padL (r : Int) d = decL r d := by
  obtain ⟨h1, h2⟩ := decL_num d r
  refine num_inj d _ _ (pad_size r d hd h) (decL_len d r) (pad_all r d) h2 ?_
  have := pad_num r d
  unfold numV at this
  rw [if_pos (pad_all r d)] at this
  rw [this, h1, Nat.mod_eq_of_lt h]
/-- pad writes the digits of a number that has not too many of them. -/
theorem padd_any (r d : Nat) (w : World) (hT : Tab w) (hd : 1 ≤ d) (hd2 : d ≤ 18) (h : r < 10 ^ d) :
    Calls Tryz.prog 76 #[.int .i64 r, .int .i64 d] w fun e w' => e = .returned (.string ⟨(decL r d).toArray⟩) ∧ Below w.heap.size w w' := by
  have hr : r ≤ 1000000000000000000 := by
    have h9 : ∀ d : Nat, d ≤ 18 → 10 ^ d ≤ 1000000000000000000 := by decide
    have := h9 d hd2
    omega
  rw [← pad_dec r d hd h]
  exact pad_any r d w hT (by omega) (by omega) (by omega)
theorem dig_ext : ∀ m, m < 10 → (⟨#[48, 49, 50, 51, 52, 53, 54, 55, 56, 57]⟩ : ByteArray).extract m (m + 1) = ⟨#[dg m]⟩ := by decide
theorem str_cons (c : UInt8) (l : List UInt8) : ((⟨#[c]⟩ : ByteArray) ++ ⟨l.toArray⟩) = ⟨(c :: l).toArray⟩ := str_app [c] l
set_option maxRecDepth 100000 in
set_option maxHeartbeats 2000000 in
theorem rdigs_any (n k : Nat) (w : World) (hn : n ≤ 1000000000000000000) (hk : k ≤ 20) :
    Calls Tryz.prog 130 #[.int .i64 n, .int .i64 k] w fun e w' => e = .returned (.string ⟨(decL n k).toArray⟩) ∧ w = w' := by
  go_enter Tryz.func130, Tryz.ntmps130
  go_wp2
  go_loop [0, 6, 7] (fun v s i => ∃ j u : Nat, ∃ S : ByteArray, j ≤ k ∧ i = .int .i64 j ∧ s = .string S ∧ v = .int .i64 u ∧ u ≤ 1000000000000000000 ∧ Hid (u = n / 10 ^ j ∧ S = ⟨(decL n j).toArray⟩) ∧ S.size ≤ 20) (fun _ _ i => k - (intOf i).toNat)
  case atStart => exact ⟨0, n, ⟨#[]⟩, Nat.zero_le _, rfl, rfl, rfl, hn, Lib.hid ⟨by simp, rfl⟩, by decide⟩
  case round =>
    obtain ⟨j, u, S, hj, rfl, rfl, rfl, hu, D, hS⟩ := hrel
    by_cases hlt : j < k
    · obtain ⟨m, hm⟩ : ∃ m, m = u % 10 := ⟨_, rfl⟩
      obtain ⟨u', hu'⟩ : ∃ u', u' = u / 10 := ⟨_, rfl⟩
      have r1 : (u : Int) % 10 = (m : Int) := by omega
      have r2 : (u : Int) / 10 = (u' : Int) := by omega
      have m0 : m < 10 := by omega
      have de := dig_ext m m0
      have D2 := Lib.hid (show u' = n / 10 ^ (j + 1) ∧ (⟨#[dg m]⟩ ++ S : ByteArray) = ⟨(decL n (j + 1)).toArray⟩ from ⟨by rw [hu', D.out.1, Nat.div_div_eq_div_mul, Nat.pow_succ], by rw [D.out.2, str_cons, dec_cons, hm, D.out.1]⟩)
      have sz : (⟨#[dg m]⟩ ++ S : ByteArray).size ≤ 20 := by
        rw [D2.out.2]
        have : (⟨(decL n (j + 1)).toArray⟩ : ByteArray).size = (decL n (j + 1)).length := by simp [ByteArray.size]
        rw [this, decL_len]; omega
      have u0 : u' ≤ 1000000000000000000 := by omega
      have i1 : (m : Int) ≤ 9 := by omega
      have i0 : 0 ≤ (m : Int) := by omega
      clear hm hu' m0
      go_wp2
      go_round
      case rel => exact ⟨j + 1, u', _, by omega, by go_num, rfl, rfl, u0, D2, sz⟩
      case measure => simp [intOf]; omega
    · obtain rfl : j = k := by omega
      have E := Lib.hid D.out.2
      go_wp2
      go_ret
      exact ⟨by rw [E.out]; rfl, rfl⟩
end At
end Go.Proofs.YtgodhaphbgllhaaGreatDoor
/-
  Texts that follow a pattern: like of the reference.
-/
namespace Go.Proofs.YtgodhaphbgllhaaGreatDoor
namespace Ap
open Go.RowKit Lw

abbrev bt (s : ByteArray) (k : Nat) : Int := ((s.get! k).toNat : Int)
/-- A byte that follows a pattern: a digit where the pattern has one, and the pattern's byte elsewhere. -/
def okAt (s p : ByteArray) (k : Nat) : Prop := (bt p k = 48 → 48 ≤ bt s k ∧ bt s k ≤ 57) ∧ (¬ bt p k = 48 → bt s k = bt p k)
instance (s p : ByteArray) (k : Nat) : Decidable (okAt s p k) := by unfold okAt; infer_instance
def likeTo (s p : ByteArray) (n : Nat) : Prop := ∀ k, k < n → okAt s p k
instance (s p : ByteArray) (n : Nat) : Decidable (likeTo s p n) := by unfold likeTo; infer_instance
def likeP (s p : ByteArray) : Prop := s.size = p.size ∧ likeTo s p s.size
instance (s p : ByteArray) : Decidable (likeP s p) := by unfold likeP; infer_instance
theorem bt_of (s : ByteArray) (i : Nat) (h : i < s.size) : bt s i = (s[i].toNat : Int) := by simp [bt, ByteArray.get!, getElem!_pos, h]; rfl
theorem like_no {s p : ByteArray} {k : Nat} (hk : k < s.size) (h : ¬ okAt s p k) : decide (likeP s p) = false := decide_eq_false fun g => h (g.2 k hk)
theorem like_yes {s p : ByteArray} {k : Nat} (hn : s.size = p.size) (hk : ¬ k < s.size) (h : likeTo s p k) : decide (likeP s p) = true := decide_eq_true ⟨hn, fun j hj => h j (by omega)⟩
theorem likeTo_s {s p : ByteArray} {k : Nat} (h : likeTo s p k) (g : okAt s p k) : likeTo s p (k + 1) := fun j hj => by
  by_cases e : j = k
  · subst e; exact g
  · exact h j (by omega)
theorem ret_b {a b : Bool} (h : a = b) : Ending.returned (.bool a) = .returned (.bool b) := by rw [h]
end Ap
end Go.Proofs.YtgodhaphbgllhaaGreatDoor
/-
  Plain law of the numbers between separators, for any string and any pattern; no walk here.
-/
namespace Go.Proofs.YtgodhaphbgllhaaGreatDoor
namespace Ap
open Go.RowKit Lw

/-- Is the byte before one of a number? -/
def ins (p : ByteArray) : Nat → Bool
  | 0 => false
  | k + 1 => decide (bt p k = 48)
/-- The numbers of the first bytes. -/
def grpL (s p : ByteArray) : Nat → List Int
  | 0 => []
  | k + 1 => if bt p k = 48 then (if ins p k = true then (grpL s p k).dropLast ++ [10 * (grpL s p k).getLastD 0 + (bt s k - 48)] else grpL s p k ++ [bt s k - 48]) else grpL s p k
def runAt (p : ByteArray) : Nat → Nat
  | 0 => 0
  | k + 1 => if bt p k = 48 then runAt p k + 1 else 0
theorem grp_skip {s p : ByteArray} {k : Nat} (h : ¬ bt p k = 48) : grpL s p (k + 1) = grpL s p k := by simp only [grpL]; rw [if_neg h]
theorem grp_new {s p : ByteArray} {k : Nat} (h : bt p k = 48) (g : ins p k = false) : grpL s p (k + 1) = grpL s p k ++ [bt s k - 48] := by
  simp only [grpL]; rw [if_pos h, g]; simp
theorem grp_on {s p : ByteArray} {k : Nat} {X : List Int} {v : Int} (h : bt p k = 48) (g : ins p k = true) (e : grpL s p k = X ++ [v]) : grpL s p (k + 1) = X ++ [10 * v + (bt s k - 48)] := by
  simp only [grpL]; rw [if_pos h, if_pos g, e]; simp
theorem grp_len (s p : ByteArray) : ∀ k, (grpL s p k).length ≤ k
  | 0 => by simp [grpL]
  | k + 1 => by
    have ih := grp_len s p k
    simp only [grpL]
    split
    · split
      · simp; omega
      · simp; omega
    · omega
theorem grp_last (s p : ByteArray) : ∀ k, likeTo s p k → ins p k = true → ∃ X v, grpL s p k = X ++ [v] ∧ 0 ≤ v ∧ v < 10 ^ runAt p k ∧ 1 ≤ runAt p k
  | 0, _, h => by cases h
  | k + 1, hl, h => by
    have hb : bt p k = 48 := of_decide_eq_true h
    have hd := (hl k (by omega)).1 hb
    have hr : runAt p (k + 1) = runAt p k + 1 := by simp only [runAt]; rw [if_pos hb]
    cases g : ins p k with
    | false =>
      refine ⟨_, _, grp_new hb g, by omega, ?_, by omega⟩
      have : (1 : Int) ≤ 10 ^ runAt p k := Int.pow_pos (by omega)
      rw [hr, Int.pow_succ]
      omega
    | true =>
      obtain ⟨X, v, e, h0, h1, _⟩ := grp_last s p k (fun j hj => hl j (by omega)) g
      refine ⟨_, _, grp_on hb g e, by omega, ?_, by omega⟩
      rw [hr, Int.pow_succ]
      omega
theorem ext_snoc (s : ByteArray) (i n : Nat) (h : i + n < s.size) : (s.extract i (i + (n + 1))).data.toList = (s.extract i (i + n)).data.toList ++ [s[i + n]] := by
  have e : ∀ j, (s.extract i (i + j)).data.toList = (s.data.toList.drop i).take j := fun j => by
    simp [ByteArray.data_extract, Array.toList_extract]
  rw [e, e, List.take_succ_eq_append_getElem (by simp; omega)]
  simp
  rfl
/-- A number of the pattern is the number of its bytes. -/
theorem grp_run (s p : ByteArray) (i : Nat) (h0 : ins p i = false) : ∀ n, 1 ≤ n → i + n ≤ s.size → (∀ j, i ≤ j → j < i + n → bt p j = 48) → grpL s p (i + n) = grpL s p i ++ [numL (s.extract i (i + n)).data.toList]
  | 0, h, _, _ => absurd h (by omega)
  | 1, _, hs, hp => by
    rw [show i + 1 = i + (0 + 1) by omega, ext_snoc s i 0 (by omega), grp_new (by exact hp i (by omega) (by omega)) h0]
    have := bt_of s (i + 0) (by omega)
    simp [numL]
    simpa using this
  | n + 2, _, hs, hp => by
    have ih := grp_run s p i h0 (n + 1) (by omega) (by omega) fun j a b => hp j a (by omega)
    have hi : ins p (i + (n + 1)) = true := decide_eq_true (hp (i + n) (by omega) (by omega))
    have e := grp_on (hp (i + (n + 1)) (by omega) (by omega)) hi ih
    rw [show i + (n + 2) = i + (n + 1) + 1 by omega, e, show i + (n + 1) + 1 = i + (n + 1 + 1) by omega, ext_snoc s i (n + 1) (by omega), numL_snoc, ← bt_of s (i + (n + 1)) (by omega)]
end Ap
end Go.Proofs.YtgodhaphbgllhaaGreatDoor
/-
  Plain law of the texts of times: what a text says, for any string; no walk here.
-/
namespace Go.Proofs.YtgodhaphbgllhaaGreatDoor
namespace Ap
open Go.RowKit Lw Go.Proofs.YtgodhaphbgllhaaGreatDoor.Mp

/-- 0000-00-00T00:00:00 -/
def P19 : ByteArray := ⟨#[48, 48, 48, 48, 45, 48, 48, 45, 48, 48, 84, 48, 48, 58, 48, 48, 58, 48, 48]⟩
/-- 0000 00 00 -/
def P10 : ByteArray := ⟨#[48, 48, 48, 48, 32, 48, 48, 32, 48, 48]⟩
/-- 000000 -/
def P6 : ByteArray := ⟨#[48, 48, 48, 48, 48, 48]⟩
/-- The number of some bytes. -/
def nm (s : ByteArray) (i j : Nat) : Int := numV (s.extract i j).data.toList
def textP (s : ByteArray) : Prop := 20 ≤ s.size ∧ s.size ≠ 21 ∧ s.size ≤ 27 ∧ bt s (s.size - 1) = 90 ∧ likeP (s.extract 0 19) P19 ∧ (20 < s.size → bt s 19 = 46 ∧ 0 ≤ nm s 20 (s.size - 1))
def microV (s : ByteArray) : Int := if s.size = 20 then 0 else nm s 20 (s.size - 1) * tenI (27 - s.size)
def okText (s : ByteArray) : Prop := textP s ∧ fromOk (nm s 0 4) (nm s 5 7) (nm s 8 10) (nm s 11 13) (nm s 14 16) (nm s 17 19) (microV s)
def textV (s : ByteArray) : Int := timeOf (nm s 0 4) (nm s 5 7) (nm s 8 10) (nm s 11 13) (nm s 14 16) (nm s 17 19) (microV s)
/-- What Parse returns: the time, and the error. -/
def ParseIs (s : ByteArray) (t e : Int) : Prop := (okText s ∧ t = textV s ∧ e = 0) ∨ (¬ okText s ∧ t = 0 ∧ e = 12)
theorem ParseIs.uniq {s : ByteArray} {t e t' e' : Int} (a : ParseIs s t e) (b : ParseIs s t' e') : t = t' ∧ e = e' := by
  rcases a with ⟨a1, a2, a3⟩ | ⟨a1, a2, a3⟩ <;> rcases b with ⟨b1, b2, b3⟩ | ⟨b1, b2, b3⟩
  · exact ⟨by rw [a2, b2], by omega⟩
  · exact absurd a1 b1
  · exact absurd b1 a1
  · exact ⟨by omega, by omega⟩
def dayP (s : ByteArray) : Prop := 10 ≤ s.size ∧ s.size ≠ 11 ∧ s.size ≤ 20 ∧ likeP (s.extract 0 10) P10 ∧ (10 < s.size → bt s 10 = 46 ∧ 0 ≤ nm s 11 s.size)
def okDay (s : ByteArray) : Prop := dayP s ∧ fromOk (nm s 0 4) (nm s 5 7) (nm s 8 10) 0 0 0 0
/-- A quotient, rounded up. -/
def upI (a b : Int) : Int := a / b + (if 0 < a % b then 1 else 0)
def dayLen (y m d : Int) : Int := if d = mo y (m + 1) - mo y m ∧ lps (12 * y + m) = lps (12 * y + m - 1) + 1 then 86401000000 else 86400000000
def partV (s : ByteArray) : Int := if s.size = 10 then 0 else upI (nm s 11 s.size * dayLen (nm s 0 4) (nm s 5 7) (nm s 8 10)) (tenI (s.size - 11))
def dayV (s : ByteArray) : Int := timeOf (nm s 0 4) (nm s 5 7) (nm s 8 10) 0 0 0 0 + partV s
/-- What ParseDay returns: the time, and the error. -/
def PDayIs (s : ByteArray) (t e : Int) : Prop := (okDay s ∧ t = dayV s ∧ e = 0) ∨ (¬ okDay s ∧ t = 0 ∧ e = 12)
theorem PDayIs.uniq {s : ByteArray} {t e t' e' : Int} (a : PDayIs s t e) (b : PDayIs s t' e') : t = t' ∧ e = e' := by
  rcases a with ⟨a1, a2, a3⟩ | ⟨a1, a2, a3⟩ <;> rcases b with ⟨b1, b2, b3⟩ | ⟨b1, b2, b3⟩
  · exact ⟨by rw [a2, b2], by omega⟩
  · exact absurd a1 b1
  · exact absurd b1 a1
  · exact ⟨by omega, by omega⟩
/-! ### Head and tail -/
abbrev noPt (c : UInt8) : Bool := decide (¬ ((c.toNat : Nat) : Int) = 46)
/-- The place of the first point, or the end. -/
def ptL (l : List UInt8) : Nat := (l.takeWhile noPt).length
theorem ptL_le : ∀ l : List UInt8, ptL l ≤ l.length
  | [] => by simp [ptL]
  | c :: l => by
    have := ptL_le l
    unfold ptL at *
    rw [List.takeWhile_cons]
    split
    · simp; omega
    · simp
theorem ptL_lo : ∀ (l : List UInt8) (j : Nat) (h : j < ptL l) (g : j < l.length), ¬ ((l[j].toNat : Nat) : Int) = 46
  | [], _, _, g => absurd g (by simp)
  | c :: l, j, h, g => by
    unfold ptL at h
    rw [List.takeWhile_cons] at h
    cases hb : noPt c with
    | false => rw [hb] at h; simp at h
    | true =>
      rw [hb] at h
      cases j with
      | zero => exact of_decide_eq_true hb
      | succ j =>
        simp only [List.getElem_cons_succ]
        exact ptL_lo l j (by unfold ptL; simp at h; omega) (by simpa using g)
theorem ptL_at : ∀ (l : List UInt8) (h : ptL l < l.length), ((l[ptL l].toNat : Nat) : Int) = 46
  | [], h => absurd h (by simp)
  | c :: l, h => by
    cases hb : noPt c with
    | false =>
      have e : ptL (c :: l) = 0 := by unfold ptL; rw [List.takeWhile_cons, hb]; rfl
      have : ((c :: l)[ptL (c :: l)]) = c := by simp only [e]; rfl
      rw [this]
      have := of_decide_eq_false hb
      omega
    | true =>
      have e : ptL (c :: l) = ptL l + 1 := by unfold ptL; rw [List.takeWhile_cons, hb]; simp
      have := ptL_at l (by rw [e] at h; simpa using h)
      have e2 : ((c :: l)[ptL (c :: l)]) = l[ptL l]'(by rw [e] at h; simpa using h) := by simp only [e]; rfl
      rw [e2]; exact this
theorem ptL_uniq {l : List UInt8} {q : Nat} (h : q ≤ l.length) (h1 : ∀ j (g : j < l.length), j < q → ¬ ((l[j].toNat : Nat) : Int) = 46) (h2 : ∀ g : q < l.length, ((l[q].toNat : Nat) : Int) = 46) : ptL l = q := by
  have a := ptL_le l
  rcases Nat.lt_trichotomy (ptL l) q with c | c | c
  · exact absurd (ptL_at l (by omega)) (h1 _ (by omega) c)
  · exact c
  · exact absurd (h2 (by omega)) (ptL_lo l q c (by omega))
end Ap
end Go.Proofs.YtgodhaphbgllhaaGreatDoor
/-
  Head and tail of a string: strings.Cut at a point, strings.CutSuffix of a Z.
-/
namespace Go.Proofs.YtgodhaphbgllhaaGreatDoor
namespace Ap
open Go.RowKit Lw

theorem point_iff (c : UInt8) : (c == 46) = true ↔ ((c.toNat : Nat) : Int) = 46 := by
  have e : c = 46 ↔ c.toNat = (46 : UInt8).toNat := UInt8.toNat_inj.symm
  have h46 : (46 : UInt8).toNat = 46 := rfl
  rw [beq_iff_eq, e, h46]
  omega
theorem idx_pt : ∀ l : List UInt8, Lib.indexByte l 46 = if ptL l < l.length then ((ptL l : Nat) : Int) else -1
  | [] => rfl
  | b :: l => by
    have ih := idx_pt l
    unfold ptL at ih ⊢
    unfold Lib.indexByte
    by_cases h : (b == 46) = true
    · have hb : noPt b = false := decide_eq_false (not_not_intro ((point_iff b).1 h))
      rw [if_pos h, List.takeWhile_cons, hb]
      simp
    · have hb : noPt b = true := decide_eq_true fun g => h ((point_iff b).2 g)
      rw [if_neg h, List.takeWhile_cons, if_pos hb, ih]
      simp only [List.length_cons, beq_iff_eq]
      by_cases g : (l.takeWhile noPt).length < l.length
      · rw [if_pos g, if_neg (by omega), if_pos (by omega)]
        omega
      · rw [if_neg g, if_pos rfl, if_neg (by omega)]
/-- The place of the first point of a string. -/
def ptS (s : ByteArray) : Nat := ptL s.data.toList
def hdP (s : ByteArray) : ByteArray := s.extract 0 (ptS s)
def tlP (s : ByteArray) : ByteArray := if ptS s < s.size then s.extract (ptS s + 1) s.size else ⟨#[]⟩
theorem ptS_le (s : ByteArray) : ptS s ≤ s.size := by have := ptL_le s.data.toList; unfold ptS; simpa using this
theorem extract_all (s : ByteArray) : s.extract 0 s.size = s := by simp
set_option maxRecDepth 100000 in
set_option maxHeartbeats 1000000 in
theorem icut_any (s : ByteArray) (w : World) (hs : s.size ≤ maxLen) :
    Calls Tryz.prog 110 #[.string s, .string ⟨#[46]⟩] w fun e w' => e = .returned (.tuple #[.string (hdP s), .string (tlP s), .bool (decide (ptS s < s.size))]) ∧ Below w.heap.size w w' := by
  have IX := Tryz.stringslite_Index_one s 46 w
  have ix := idx_pt s.data.toList
  have hl : s.data.toList.length = s.size := by simp
  rw [hl] at ix
  replace ix : Lib.indexByte s.data.toList 46 = if ptS s < s.size then ((ptS s : Nat) : Int) else -1 := ix
  have le := ptS_le s
  have M : maxLen = 9223372036854775807 := rfl
  by_cases h : ptS s < s.size
  · have e : Lib.indexByte s.data.toList 46 = ((ptS s : Nat) : Int) := by rw [ix, if_pos h]
    rw [e] at IX
    have T := Lib.hid (show tlP s = s.extract (ptS s + 1) s.size from if_pos h)
    have H := Lib.hid (show hdP s = s.extract 0 (ptS s) from rfl)
    rw [decide_eq_true h]
    clear ix e
    generalize ptS s = q at *
    have i0 : 0 ≤ (q : Int) := by omega
    go_enter Tryz.func110, Tryz.ntmps110
    go_wp2_with fail
    refine IX.mono ?_
    rintro e w1 ⟨rfl, rfl⟩
    go_wp2_with fail
    go_quiet (fail)
    go_wp2_with fail
    go_ret3

    exact ⟨by rw [T.out, H.out]; rfl, drewN_below2 (Below.refl _ _) _⟩
  · have e : Lib.indexByte s.data.toList 46 = -1 := by rw [ix, if_neg h]
    rw [e] at IX
    have T := Lib.hid (show tlP s = ⟨#[]⟩ from if_neg h)
    have H := Lib.hid (show hdP s = s by unfold hdP; rw [show ptS s = s.size by omega]; exact extract_all s)
    rw [decide_eq_false h]
    clear ix e
    go_enter Tryz.func110, Tryz.ntmps110
    go_wp2_with fail
    refine IX.mono ?_
    rintro e w1 ⟨rfl, rfl⟩
    go_wp2_with fail
    go_ret3
    exact ⟨by rw [T.out, H.out]; rfl, Below.refl _ _⟩
theorem cut_any (s : ByteArray) (w : World) (hs : s.size ≤ maxLen) :
    Calls Tryz.prog 64 #[.string s, .string ⟨#[46]⟩] w fun e w' => e = .returned (.tuple #[.string (hdP s), .string (tlP s), .bool (decide (ptS s < s.size))]) ∧ Below w.heap.size w w' := by
  go_enter Tryz.func64, Tryz.ntmps64
  go_wp2_with fail
  refine (icut_any s w hs).mono ?_
  rintro e w1 ⟨rfl, hb⟩
  go_wp2_with fail
  go_ret3
  exact ⟨rfl, hb⟩
/-- Does a string end in a Z? -/
def zP (s : ByteArray) : Prop := 1 ≤ s.size ∧ bt s (s.size - 1) = 90
instance (s : ByteArray) : Decidable (zP s) := by unfold zP; infer_instance
def noZ (s : ByteArray) : ByteArray := if zP s then s.extract 0 (s.size - 1) else s
theorem suf_z (s : ByteArray) : Lib.hasSuffix s.data.toList [90] = decide (zP s) := by
  unfold Lib.hasSuffix
  rw [Bool.eq_iff_iff, decide_eq_true_iff, List.isSuffixOf_iff_suffix]
  constructor
  · rintro ⟨r, h⟩
    have hl := congrArg List.length h
    simp at hl
    refine ⟨by omega, ?_⟩
    rw [bt_of s _ (by omega)]
    have e : s[s.size - 1]'(by omega) = s.data.toList[s.size - 1]'(by simp; omega) := rfl
    rw [e]
    have : s.data.toList[s.size - 1]'(by simp; omega) = (r ++ [90])[s.size - 1]'(by simp; omega) := by simp only [h]
    rw [this, List.getElem_append_right (by omega)]
    simp
  · rintro ⟨h1, h2⟩
    rw [bt_of s _ (by omega)] at h2
    refine ⟨s.data.toList.take (s.size - 1), ?_⟩
    have e := take_snoc s (s.size - 1) (by omega)
    have hz : s[s.size - 1] = 90 := by
      apply UInt8.toNat_inj.1
      have : (90 : UInt8).toNat = 90 := rfl
      omega
    rw [hz, show s.size - 1 + 1 = s.size by omega] at e
    rw [← e]
    exact List.take_of_length_le (by simp)
set_option maxRecDepth 100000 in
set_option maxHeartbeats 1000000 in
theorem suf_any (s : ByteArray) (w : World) (hs : s.size ≤ maxLen) :
    Calls Tryz.prog 118 #[.string s, .string ⟨#[90]⟩] w fun e w' => e = .returned (.tuple #[.string (noZ s), .bool (decide (zP s))]) ∧ w = w' := by
  have M : maxLen = 9223372036854775807 := rfl
  have IX := Tryz.stringslite_HasSuffix s ⟨#[90]⟩ w (by omega)
  have e : Lib.hasSuffix s.data.toList (⟨#[90]⟩ : ByteArray).data.toList = decide (zP s) := suf_z s
  rw [e] at IX
  clear e
  by_cases h : zP s
  · have T := Lib.hid (show noZ s = s.extract 0 (s.size - 1) from if_pos h)
    have h1 : 1 ≤ s.size := h.1
    rw [decide_eq_true h] at IX ⊢
    clear h
    go_enter Tryz.func118, Tryz.ntmps118
    go_wp2_with (first | (go_at_call 202; refine IX.mono ?_; rintro e w1 ⟨rfl, rfl⟩) | (go_at_call 173; go_in))

    go_ret2
    exact ⟨by rw [T.out]; rfl, rfl⟩
  · have T := Lib.hid (show noZ s = s from if_neg h)
    rw [decide_eq_false h] at IX ⊢
    clear h
    go_enter Tryz.func118, Tryz.ntmps118
    go_wp2_with (first | (go_at_call 202; refine IX.mono ?_; rintro e w1 ⟨rfl, rfl⟩) | (go_at_call 173; go_in))
    go_ret2
    exact ⟨by rw [T.out]; rfl, rfl⟩
end Ap
end Go.Proofs.YtgodhaphbgllhaaGreatDoor
/-
  Plain law: what head, tail and numbers of a text say is what the text says; no walk here.
-/
namespace Go.Proofs.YtgodhaphbgllhaaGreatDoor
namespace Ap
open Go.RowKit Lw Go.Proofs.YtgodhaphbgllhaaGreatDoor.Mp

theorem bt_ext (s : ByteArray) (i j k : Nat) (hj : j ≤ s.size) (hk : i + k < j) : bt (s.extract i j) k = bt s (i + k) := by
  have h1 : k < (s.extract i j).size := by simp; omega
  rw [bt_of _ k h1, bt_of s (i + k) (by omega)]
  simp [ByteArray.getElem_extract]
theorem size_ext (s : ByteArray) (i j : Nat) (hj : j ≤ s.size) : (s.extract i j).size = j - i := by simp; omega
theorem ext_ext (s : ByteArray) (j k : Nat) (h : k ≤ j) (hj : j ≤ s.size) : (s.extract 0 j).extract 0 k = s.extract 0 k := by
  rw [ByteArray.extract_extract]
  congr 1 <;> omega
theorem ext_ext2 (s : ByteArray) (i j : Nat) (hj : j ≤ s.size) : (s.extract 0 j).extract i j = s.extract i j := by
  rw [ByteArray.extract_extract]
  congr 1 <;> omega
theorem pt_lo (s : ByteArray) (j : Nat) (h : j < ptS s) : ¬ bt s j = 46 := by
  have hj : j < s.size := Nat.lt_of_lt_of_le h (ptS_le s)
  rw [bt_of s j hj]
  exact ptL_lo s.data.toList j h (by simpa using hj)
theorem pt_at (s : ByteArray) (h : ptS s < s.size) : bt s (ptS s) = 46 := by
  rw [bt_of s _ h]
  exact ptL_at s.data.toList (by have g := h; unfold ptS at g; simpa using g)
theorem pt_uniq {s : ByteArray} {q : Nat} (h : q ≤ s.size) (h1 : ∀ j, j < q → ¬ bt s j = 46) (h2 : q < s.size → bt s q = 46) : ptS s = q := by
  refine ptL_uniq (by simpa using h) (fun j g hj => ?_) (fun g => ?_)
  · have hs : j < s.size := by simpa using g
    have := h1 j hj
    rw [bt_of s j hs] at this
    exact this
  · have hs : q < s.size := by simpa using g
    have := h2 hs
    rw [bt_of s q hs] at this
    exact this
theorem allD_bt (s : ByteArray) : allD s.data.toList ↔ ∀ k, k < s.size → 48 ≤ bt s k ∧ bt s k ≤ 57 := by
  constructor
  · intro h k hk
    rw [bt_of s k hk]
    exact h _ (by
      have : s[k] = s.data.toList[k]'(by simpa using hk) := rfl
      rw [this]; exact List.getElem_mem _)
  · intro h c hc
    obtain ⟨k, hk, rfl⟩ := List.mem_iff_getElem.1 hc
    have hs : k < s.size := by simpa using hk
    have := h k hs
    rw [bt_of s k hs] at this
    exact this
theorem numV_nn (l : List UInt8) : 0 ≤ numV l ↔ allD l := by
  unfold numV
  by_cases h : allD l
  · rw [if_pos h]
    have e : l.take l.length = l := List.take_length
    have := numL_bd l l.length (Nat.le_refl _) (by rw [e]; exact h)
    rw [e] at this
    exact ⟨fun _ => h, fun _ => this.1⟩
  · rw [if_neg h]
    exact ⟨fun g => absurd g (by omega), fun g => absurd g h⟩
theorem numV_yes {l : List UInt8} (h : allD l) : numV l = numL l := if_pos h
/-! ### The digits behind the point -/
def pad6 (t : ByteArray) : ByteArray := t ++ P6.extract t.size P6.size
theorem zeros6 (i : Nat) (h : i ≤ 6) : (P6.extract i P6.size).data.toList = List.replicate (6 - i) 48 := by
  have : i = 0 ∨ i = 1 ∨ i = 2 ∨ i = 3 ∨ i = 4 ∨ i = 5 ∨ i = 6 := by omega
  rcases this with rfl | rfl | rfl | rfl | rfl | rfl | rfl <;> decide
theorem pad6_list (t : ByteArray) (h : t.size ≤ 6) : (pad6 t).data.toList = t.data.toList ++ List.replicate (6 - t.size) 48 := by
  rw [← zeros6 t.size h]
  simp [pad6]
theorem pad6_size (t : ByteArray) (h : t.size ≤ 6) : (pad6 t).size = 6 := by
  have := congrArg List.length (pad6_list t h)
  simp at this
  omega
theorem numL_zeros (l : List UInt8) : ∀ k, numL (l ++ List.replicate k 48) = numL l * tenI k
  | 0 => by simp [tenI]
  | k + 1 => by
    have ih := numL_zeros l k
    have e : List.replicate (k + 1) (48 : UInt8) = List.replicate k 48 ++ [48] := List.replicate_succ'
    have h48 : ((48 : UInt8).toNat : Int) = 48 := rfl
    rw [e, ← List.append_assoc, numL_snoc, ih, tenI_s, h48, ← Int.mul_assoc (numL l) (tenI k) 10]
    generalize numL l * tenI k = Z
    omega
theorem P6_at : ∀ k, k < 6 → bt P6 k = 48 := by decide
theorem like6 (t : ByteArray) (h : t.size ≤ 6) : likeP (pad6 t) P6 ↔ allD t.data.toList := by
  have hs := pad6_size t h
  have ha := allD_bt (pad6 t)
  rw [pad6_list t h, hs] at ha
  have hb : allD (t.data.toList ++ List.replicate (6 - t.size) 48) ↔ allD t.data.toList := by
    constructor
    · exact fun g c hc => g c (List.mem_append_left _ hc)
    · intro g c hc
      rcases List.mem_append.1 hc with hc | hc
      · exact g c hc
      · have := (List.mem_replicate.1 hc).2
        subst this
        exact ⟨by decide, by decide⟩
  rw [← hb, ha]
  constructor
  · intro ⟨_, g⟩ k hk
    exact (g k (by omega)).1 (P6_at k hk)
  · intro g
    refine ⟨hs, fun k hk => ⟨fun _ => g k (by omega), fun e => absurd (P6_at k (by omega)) e⟩⟩
theorem grp6 (t : ByteArray) (h : t.size ≤ 6) : grpL (pad6 t) P6 (pad6 t).size = [numL t.data.toList * tenI (6 - t.size)] := by
  have hs := pad6_size t h
  have := grp_run (pad6 t) P6 0 rfl 6 (by omega) (by omega) (fun j _ hj => P6_at j (by omega))
  rw [hs, show (6 : Nat) = 0 + 6 by omega, this]
  have e : (pad6 t).extract 0 (0 + 6) = pad6 t := by rw [show 0 + 6 = (pad6 t).size by omega]; exact extract_all _
  rw [e, pad6_list t h, numL_zeros]
  rfl
/-! ### The numbers ahead of the point -/
theorem P19_no : ∀ j, j < 19 → ¬ bt P19 j = 46 := by decide
theorem P10_no : ∀ j, j < 10 → ¬ bt P10 j = 46 := by decide
theorem like_no46 {h p : ByteArray} {n : Nat} (hl : likeP h p) (hn : h.size = n) (hp : ∀ j, j < n → ¬ bt p j = 46) : ∀ j, j < n → ¬ bt h j = 46 := fun j hj e => by
  obtain ⟨a, b⟩ := hl.2 j (by omega)
  by_cases g : bt p j = 48
  · have := a g; omega
  · have := b g
    exact hp j hj (by omega)
/-- What the program finds of a text. -/
def progT (s : ByteArray) : Prop := zP s ∧ likeP (hdP (noZ s)) P19 ∧ (ptS (noZ s) < (noZ s).size → 1 ≤ (tlP (noZ s)).size ∧ (tlP (noZ s)).size ≤ 6) ∧ allD (tlP (noZ s)).data.toList
theorem P19_size : P19.size = 19 := rfl
theorem P10_size : P10.size = 10 := rfl
theorem prog_text {s : ByteArray} (g : progT s) : textP s ∧ hdP (noZ s) = s.extract 0 19 ∧ microV s = numL (tlP (noZ s)).data.toList * tenI (6 - (tlP (noZ s)).size) := by
  obtain ⟨z, lk, sz, ad⟩ := g
  have hr : noZ s = s.extract 0 (s.size - 1) := if_pos z
  obtain ⟨z1, z2⟩ := z
  have rs : (noZ s).size = s.size - 1 := by rw [hr, size_ext s _ _ (by omega)]; omega
  have hq : ptS (noZ s) = 19 := by
    have := lk.1
    rw [P19_size] at this
    have le := ptS_le (noZ s)
    unfold hdP at this
    rw [size_ext _ _ _ le] at this
    omega
  have hle := ptS_le (noZ s)
  have hh : hdP (noZ s) = s.extract 0 19 := by
    unfold hdP
    rw [hq, hr, ext_ext s _ _ (by omega) (by omega)]
  rw [hh] at lk
  by_cases hp : ptS (noZ s) < (noZ s).size
  · have ht : tlP (noZ s) = s.extract 20 (s.size - 1) := by
      unfold tlP
      rw [if_pos hp, hq, rs, hr, ext_ext2 s _ _ (by omega)]
    have hs := sz hp
    rw [ht, size_ext s _ _ (by omega)] at hs
    have h46 := pt_at (noZ s) hp
    rw [hq, hr, bt_ext s 0 (s.size - 1) 19 (by omega) (by omega)] at h46
    have ad' := ad
    rw [ht] at ad'
    refine ⟨⟨by omega, by omega, by omega, z2, lk, fun _ => ⟨by simpa using h46, (numV_nn _).2 ad'⟩⟩, hh, ?_⟩
    unfold microV nm
    rw [if_neg (by omega), numV_yes ad', ht, size_ext s _ _ (by omega), show 6 - (s.size - 1 - 20) = 27 - s.size by omega]
  · have ht : tlP (noZ s) = ⟨#[]⟩ := if_neg hp
    refine ⟨⟨by omega, by omega, by omega, z2, lk, fun h => absurd h (by omega)⟩, hh, ?_⟩
    unfold microV
    rw [if_pos (by omega), ht]
    rfl
theorem text_prog {s : ByteArray} (g : textP s) : progT s := by
  obtain ⟨h20, h21, h27, hz, lk, hm⟩ := g
  have z : zP s := ⟨by omega, hz⟩
  have hr : noZ s = s.extract 0 (s.size - 1) := if_pos z
  have rs : (noZ s).size = s.size - 1 := by rw [hr, size_ext s _ _ (by omega)]; omega
  have no := like_no46 lk (by rw [size_ext s _ _ (by omega)]) P19_no
  have hq : ptS (noZ s) = 19 := by
    refine pt_uniq (by omega) (fun j hj => ?_) (fun h => ?_)
    · have := no j (by omega)
      rw [bt_ext s 0 19 j (by omega) (by omega)] at this
      rw [hr, bt_ext s 0 _ j (by omega) (by omega)]
      exact this
    · rw [hr, bt_ext s 0 _ 19 (by omega) (by omega)]
      have := (hm (by omega)).1
      simpa using this
  have hh : hdP (noZ s) = s.extract 0 19 := by
    unfold hdP
    rw [hq, hr, ext_ext s _ _ (by omega) (by omega)]
  refine ⟨z, by rw [hh]; exact lk, fun hp => ?_, ?_⟩
  · have ht : tlP (noZ s) = s.extract 20 (s.size - 1) := by
      unfold tlP
      rw [if_pos hp, hq, rs, hr, ext_ext2 s _ _ (by omega)]
    rw [ht, size_ext s _ _ (by omega)]
    omega
  · by_cases hp : ptS (noZ s) < (noZ s).size
    · have ht : tlP (noZ s) = s.extract 20 (s.size - 1) := by
        unfold tlP
        rw [if_pos hp, hq, rs, hr, ext_ext2 s _ _ (by omega)]
      rw [ht]
      exact (numV_nn _).1 (hm (by omega)).2
    · have ht : tlP (noZ s) = ⟨#[]⟩ := if_neg hp
      rw [ht]
      exact fun c hc => absurd hc (by simp)
end Ap
end Go.Proofs.YtgodhaphbgllhaaGreatDoor
/-
  The texts of times: Text of package moment and of the reference.
-/
namespace Go.Proofs.YtgodhaphbgllhaaGreatDoor
namespace At
open Go.RowKit Lw Ap Go.Proofs.YtgodhaphbgllhaaGreatDoor.Mp Go.Proofs.YtgodhaphbgllhaaGreatDoor.Mw

/-- The last digits of a number, as a string. -/
def dS (n k : Nat) : ByteArray := ⟨(decL n k).toArray⟩
theorem dS_size (n k : Nat) : (dS n k).size = k := by
  have : (dS n k).size = (decL n k).length := by simp [dS, ByteArray.size]
  rw [this, decL_len]
theorem add_fact {a b c : ByteArray} (h : c = a ++ b) (hs : a.size + b.size ≤ 9223372036854775807) : ∀ w' : World, (Op.stringOp .add a b).run Tryz.prog w' = .ok (.string c) w' := fun w' => by
  rw [run_string_add_sum (P := Tryz.prog) (w := w') _ _ hs, h]
def baseS (Y M D H I S : Nat) : ByteArray := dS Y 4 ++ (⟨#[45]⟩ : ByteArray) ++ dS M 2 ++ (⟨#[45]⟩ : ByteArray) ++ dS D 2 ++ (⟨#[84]⟩ : ByteArray) ++ dS H 2 ++ (⟨#[58]⟩ : ByteArray) ++ dS I 2 ++ (⟨#[58]⟩ : ByteArray) ++ dS S 2
/-- The text of a time. -/
def textS (Y M D H I S U d : Nat) : ByteArray := (if 0 < d then baseS Y M D H I S ++ ((⟨#[46]⟩ : ByteArray) ++ (dS U 6).extract 0 d) else baseS Y M D H I S) ++ (⟨#[90]⟩ : ByteArray)
/-- What Text returns: the text, and the error. -/
def TextIs (t d : Int) (s : ByteArray) (c : Int) : Prop :=
  ((d < 0 ∨ 6 < d) ∧ s = ⟨#[]⟩ ∧ c = 2) ∨ (0 ≤ d ∧ d ≤ 6 ∧ (t < bgv (-10227) 1972 1 ∨ bgv 36525 2100 1 ≤ t) ∧ s = ⟨#[]⟩ ∧ c = 16) ∨
  (0 ≤ d ∧ d ≤ 6 ∧ bgv (-10227) 1972 1 ≤ t ∧ t < bgv 36525 2100 1 ∧ ∃ n y m z k, DayOf t n y m z k ∧ s = textS y.toNat m.toNat (n - mo y m + 1).toNat (mins (t - bgv n y m) / 60).toNat (mins (t - bgv n y m) % 60).toNat ((t - bgv n y m) / 1000000 - 60 * mins (t - bgv n y m)).toNat ((t - bgv n y m) % 1000000).toNat d.toNat ∧ c = 0)
theorem TextIs.uniq {t d : Int} {s s' : ByteArray} {c c' : Int} (a : TextIs t d s c) (b : TextIs t d s' c') : s = s' ∧ c = c' := by
  rcases a with ⟨a0, a1, a2⟩ | ⟨a0, a1, a2, a3, a4⟩ | ⟨a0, a1, a2, a3, n, y, m, z, k, a4, a5, a6⟩ <;> rcases b with ⟨b0, b1, b2⟩ | ⟨b0, b1, b2, b3, b4⟩ | ⟨b0, b1, b2, b3, n', y', m', z', k', b4, b5, b6⟩
  · exact ⟨by rw [a1, b1], by omega⟩
  · omega
  · omega
  · omega
  · exact ⟨by rw [a3, b3], by omega⟩
  · omega
  · omega
  · omega
  · obtain ⟨rfl, rfl, rfl, _, _⟩ := a4.uniq b4
    exact ⟨by rw [a5, b5], by omega⟩
def TextPost (t d : Int) (w : World) (e : Ending) (w' : World) : Prop := ∃ (s : ByteArray) (c : Int), e = .returned (.tuple #[.string s, .int .i64 c]) ∧ TextIs t d s c ∧ Below w.heap.size w w'
/-- The parts of a date, as naturals. -/
theorem date_nat {t n y m z k : Int} (h : DayOf t n y m z k) : ∃ Y M D H I S U : Nat, y = Y ∧ m = M ∧ n - mo y m + 1 = D ∧ mins (t - bgv n y m) / 60 = H ∧ mins (t - bgv n y m) % 60 = I ∧ (t - bgv n y m) / 1000000 - 60 * mins (t - bgv n y m) = S ∧ (t - bgv n y m) % 1000000 = U ∧
    Y < 10 ^ 4 ∧ M < 10 ^ 2 ∧ D < 10 ^ 2 ∧ H < 10 ^ 2 ∧ I < 10 ^ 2 ∧ S < 10 ^ 2 ∧ U < 10 ^ 6 := by
  obtain ⟨p1, p2⟩ := h.pass
  have y1 := h.y1
  have y2 := h.y2
  have m1 := h.ym.m1
  have m2 := h.ym.m12
  have ml := mo_bd2 h
  generalize t - bgv n y m = p at *
  generalize n - mo y m + 1 = dd at *
  have hm : 0 ≤ mins p ∧ mins p ≤ 1439 ∧ 60 * mins p ≤ p / 1000000 ∧ p / 1000000 - 60 * mins p ≤ 60 := by unfold mins; split <;> omega
  generalize mins p = q at *
  refine ⟨y.toNat, m.toNat, dd.toNat, (q / 60).toNat, (q % 60).toNat, (p / 1000000 - 60 * q).toNat, (p % 1000000).toNat, ?_⟩
  omega
/-- The date in its block, the table, and what was there before. -/
structure XS (w : World) (b : Nat) (w' : World) : Prop where
  lt : b < w'.heap.size
  tab : Tab w'
  below : Below w.heap.size w w'
theorem XS.call {w : World} {b : Nat} {a c : World} (h : XS w b a) (hb : Below a.heap.size a c) : XS w b c := ⟨Nat.lt_of_lt_of_le h.lt hb.size, h.tab.below hb, below_then h.below hb⟩
theorem XS.drew {w : World} {b : Nat} {a : World} (h : XS w b a) : XS w b a.drew := ⟨h.lt, h.tab, h.below.drew⟩
structure XSr (w : World) (b : Nat) (w' : World) : Prop where
  lt : b < w'.heap.size
  below : Below w.heap.size w w'
theorem XSr.drew {w : World} {b : Nat} {a : World} (h : XSr w b a) : XSr w b a.drew := ⟨h.lt, h.below.drew⟩
theorem app_left (a b c : ByteArray) : a ++ (b ++ c) ++ (⟨#[90]⟩ : ByteArray) = a ++ b ++ c ++ (⟨#[90]⟩ : ByteArray) := by rw [← ByteArray.append_assoc]
theorem pads_any (r d : Nat) (w : World) (hT : Tab w) (hd : 1 ≤ d) (hd2 : d ≤ 18) (h : r < 10 ^ d) :
    Calls Tryz.prog 76 #[.int .i64 r, .int .i64 d] w fun e w' => e = .returned (.string (dS r d)) ∧ Below w.heap.size w w' := padd_any r d w hT hd hd2 h
theorem digs_any (n k : Nat) (w : World) (hn : n < 10 ^ 6) (hk : k ≤ 6) :
    Calls Tryz.prog 130 #[.int .i64 n, .int .i64 k] w fun e w' => e = .returned (.string (dS n k)) ∧ w = w' := rdigs_any n k w (by omega) (by omega)
theorem digs2 (n : Nat) (w : World) (hn : n < 10 ^ 6) : Calls Tryz.prog 130 #[.int .i64 n, .int .i64 2] w fun e w' => e = .returned (.string (dS n 2)) ∧ w = w' := digs_any n 2 w hn (by omega)
theorem digs4 (n : Nat) (w : World) (hn : n < 10 ^ 6) : Calls Tryz.prog 130 #[.int .i64 n, .int .i64 4] w fun e w' => e = .returned (.string (dS n 4)) ∧ w = w' := digs_any n 4 w hn (by omega)
theorem text_frac {Y M D H I S U d : Nat} {A X Z : ByteArray} (hb : baseS Y M D H I S = A) (hd : 0 < d) (hx : X = (dS U 6).extract 0 d) (hz : Z = A ++ ((⟨#[46]⟩ : ByteArray) ++ X)) : Z ++ (⟨#[90]⟩ : ByteArray) = textS Y M D H I S U d := by
  unfold textS; rw [if_pos hd, hb, hz, hx]
theorem text_whole {Y M D H I S U d : Nat} {A : ByteArray} (hb : baseS Y M D H I S = A) (hd : ¬ 0 < d) : A ++ (⟨#[90]⟩ : ByteArray) = textS Y M D H I S U d := by
  unfold textS; rw [if_neg hd, hb]
theorem text_arg {t d : Int} (h : d < 0 ∨ 6 < d) : TextIs t d ⟨#[]⟩ 2 := Or.inl ⟨h, rfl, rfl⟩
end At
end Go.Proofs.YtgodhaphbgllhaaGreatDoor
